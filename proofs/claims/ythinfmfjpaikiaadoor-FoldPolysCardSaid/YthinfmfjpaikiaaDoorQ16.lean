-- Written by prx.py (this session's driver of the kit's print) out of the translation. Not trusted: Lean checks it.
import Derived.Test.YthinfmfjpaikiaaDoorQ0
import Derived.Test.YthinfmfjpaikiaaDoorQ2
import Derived.Test.YthinfmfjpaikiaaDoorQ3
import Derived.Test.YthinfmfjpaikiaaDoorQ7
import Derived.Test.YthinfmfjpaikiaaDoorQ11
import Derived.Test.YthinfmfjpaikiaaDoorQ14
namespace Go.Proofs.YthinfmfjpaikiaaDoor.Q
open Go.RowKit Go.Proofs.YthinfmfjpaikiaaDoorW.PrintWords Go.Proofs.YthinfmfjpaikiaaDoorW.PrintLast Go.Proofs.YthinfmfjpaikiaaDoorW.PrintMore
attribute [local go_sem] max2_int min2_int max_two min_two max_three min_three max_four min_four   -- for this text's walks alone
set_option linter.unusedVariables false
set_option linter.unusedSimpArgs false

/-! ### poly_trim: function 62 -/
def poly_trim.l0 : Nat → List Int → Int → Option (List Int)
 | 0, _, _ => none
 | k + 1, x0, x3 => if x3 > 0 then (if 0 ≤ (wrap64 (x3 - 1)) then (if (wrap64 (x3 - 1)) < (x0.length : Int) then (if (rd x0 (wrap64 (x3 - 1))) = 0 then (poly_trim.l0 k x0 (wrap64 (x3 - 1))) else (if 0 ≤ x3 then (if x3 ≤ (x0.length : Int) then (some (x0.take (x3 : Int).toNat)) else (none)) else (none))) else (none)) else (none)) else (if 0 ≤ x3 then (if x3 ≤ (x0.length : Int) then (some (x0.take (x3 : Int).toNat)) else (none)) else (none))
def poly_trim.f (k : Nat) (l0 : List Int) : Option (List Int) := poly_trim.l0 k l0 (l0.length : Int)
set_option maxHeartbeats 8000000 in
set_option maxRecDepth 100000 in
theorem poly_trim.calls (k : Nat) (P0_ : Nat → Prop) (u9000_ : Value) (l0 : List Int) (r : List Int) (w0 w : World) (hB : Below w0.heap.size w0 w) (ho0 : Kd.R (Kd.int .u64) 22 w w0.heap.size P0_ u9000_ l0) (h : poly_trim.f k l0 = some r) :
  Calls Tryd.prog 62 #[u9000_] w fun e w' => ∃ v0_ : Value, e = .returned (v0_) ∧ Kd.R (Kd.int .u64) 22 w' w0.heap.size (fun k_ => (P0_ k_ ∨ w.heap.size ≤ k_)) v0_ r ∧ Below w0.heap.size w0 w' ∧ Kept w w' (fun k_ => P0_ k_) := by
 have HO0 := ak (show Kd.R (Kd.int .u64) 22 w w0.heap.size (fun k_ => (P0_ k_ ∨ w.heap.size ≤ k_)) u9000_ l0 from Kd.R_mono ho0 (fun k_ hk => (.inl hk)))
 have HK := ak (Kept.refl w (fun k_ => P0_ k_))
 have HW0 := ak hB.size
 have HB := ak hB
 clear hB
 have H : (poly_trim.l0 k l0 (l0.length : Int)) = some r := h
 clear h
 have H' := ak H
 clear H
 obtain ⟨Ao2, co2, eo2⟩ := Kd.R_slice HO0.out
 subst eo2
 go_enter Tryd.func62, Tryd.ntmps62
 go_wp2
 go_loopg [3] k (fun kq v3 w' => ∃ (x3_1 : Int), v3 = .int .i64 x3_1 ∧ Aside0 (poly_trim.l0 kq l0 x3_1 = some r) ∧ Aside0 (kq ≤ k) ∧ Aside0 (Kd.R (Kd.int .u64) 22 w' w0.heap.size (fun k_ => (P0_ k_ ∨ w.heap.size ≤ k_)) (.slice Ao2 l0.length co2) l0) ∧ Aside0 (Kept w w' (fun k_ => P0_ k_)) ∧ Aside0 (Below w0.heap.size w0 w'))
 case atStart => exact ⟨((l0.length : Int)), gb_, H', ⟨Nat.le_refl _⟩, ⟨rU_ HO0.out⟩, ⟨by repeat (first | (with_reducible first | exact HK.out | apply Kept.alloc | apply Kept.drewN | apply Kept.drew) | exact HK.out)⟩, ⟨bU_ HB.out⟩⟩
 case round =>
  clear H'
  try clear p2
  obtain ⟨x3_1, rfl, HA, HK1, HO_0, HK, HB⟩ := hrel
  cases gk with
  | zero => exact absurd HA.out (by simp [poly_trim.l0])
  | succ k1 =>
   have H := HA.out
   clear HA
   simp only [poly_trim.l0] at H
   by_cases c3 : x3_1 > 0
   ·rw [if_pos c3] at H
    have c3b0 : decide (0 < x3_1) = true := decide_eq_true c3
    clear c3
    obtain ⟨ji4, hji4⟩ : ∃ j_ : Int, (wrap64 (x3_1 - 1)) = j_ := ⟨_, rfl⟩
    first | rw [hji4] at H | simp only [hji4] at H
    have hji4w : (IntKind.i64.wrap (x3_1 - 1)) = ji4 := (i64_w _).trans hji4
    obtain ⟨c5, H⟩ : (0 ≤ (ji4)) ∧ _ := it_ H
    have c5b0 := decide_eq_true c5
    clear c5
    obtain ⟨c6, H⟩ : ((ji4) < (l0.length : Int)) ∧ _ := it_ H
    have c6b0 := decide_eq_true c6
    clear c6
    by_cases c7 : (rd l0 (ji4)) = 0
    ·rw [if_pos c7] at H
     have c7b0 := beq_iff_eq.mpr c7
     have c7b1 := bne_eq_false_iff_eq.mpr c7
     clear c7
     have H' := ak H
     clear H
     have p456 : 0 ≤ ((ji4) : Int) := od_
     have q456 : (ji4) < (l0.length : Int) := od_
     obtain ⟨ad456, e456, hx456_0⟩ := Kd.at_int (Kd.R_reads' HO_0.out).2.2 (ji4) p456 q456
     cases e456
     replace p456 := eq_true p456
     replace q456 := eq_true q456
     go_wp2
     go_roundg k1
     case measure => have := HK1.out; omega
     case rel => exact ⟨(ji4), (by first | rfl | (simp; done) | (simp only [← hji4] <;> (first | rfl | simp)) | (simp [*]; done)), H', ⟨by have := HK1.out; omega⟩, ⟨rU_ HO_0.out⟩, ⟨by repeat (first | (with_reducible first | exact HK.out | apply Kept.alloc | apply Kept.drewN | apply Kept.drew) | exact HK.out)⟩, ⟨bU_ HB.out⟩⟩
    ·rw [if_neg c7] at H
     have c7b0 := beq_eq_false_iff_ne.mpr c7
     have c7b1 := bne_iff_ne.mpr c7
     obtain ⟨c8, H⟩ : (0 ≤ x3_1) ∧ _ := it_ H
     have c8b0 := eq_true c8
     have c8b1 := decide_eq_true c8
     clear c8
     obtain ⟨c9, H⟩ : (x3_1 ≤ (l0.length : Int)) ∧ _ := it_ H
     have c9b0 := eq_true c9
     have c9b1 := decide_eq_true c9
     clear c9
     obtain ⟨y457, hy457⟩ : ∃ y_ : List Int, y_ = (l0.take (x3_1 : Int).toNat) := ⟨_, rfl⟩
     first | rw [Option.bind_some, ← hy457] at H | rw [← hy457] at H
     have Ny457 := ak hy457
     clear hy457
     obtain rfl := Option.some.inj H
     have p456 : 0 ≤ ((ji4) : Int) := od_
     have q456 : (ji4) < (l0.length : Int) := od_
     obtain ⟨ad456, e456, hx456_0⟩ := Kd.at_int (Kd.R_reads' HO_0.out).2.2 (ji4) p456 q456
     cases e456
     replace p456 := eq_true p456
     replace q456 := eq_true q456
     have q10 : (x3_1 : Int) ≤ ((l0.length : Int) : Int) := od_
     obtain ⟨i010, hi010, _, hsz10, _⟩ := info_parts info22
     have hcut10 := cut_to (P := Tryd.prog) 33 22 .i64 Tryd.underlying33 hi010 (some ad456) l0.length co2 x3_1 od_ q10 (Kd.R_reads' HO_0.out).2.1
     have hr10 := Kd.R_take (m := (x3_1 : Int).toNat) HO_0.out (by omega)
     have hy10 : y457.length = (x3_1 : Int).toNat := (by rw [Ny457.out, List.length_take]; omega)
     rw [← Ny457.out] at hr10
     rw [← hy10] at hr10 hcut10
     clear hy10 hi010 hsz10 HO_0
     have HO459 := ak hr10
     clear hr10
     replace q10 := eq_true q10
     go_wp2
     go_ret
     exact ⟨_, by first | rfl | (simp [errW_none, errW_some] <;> rfl) | (simp only [← hji4]; first | rfl | (simp [errW_none, errW_some] <;> rfl)) | (simp [*, errW_none, errW_some] <;> rfl), rU_ HO459.out, bU_ HB.out, by repeat (first | (with_reducible first | exact HK.out | apply Kept.alloc | apply Kept.drewN | apply Kept.drew) | exact HK.out)⟩
   ·rw [if_neg c3] at H
    have c3b0 : decide (0 < x3_1) = false := decide_eq_false c3
    clear c3
    obtain ⟨c11, H⟩ : (0 ≤ x3_1) ∧ _ := it_ H
    have c11b0 := eq_true c11
    have c11b1 := decide_eq_true c11
    clear c11
    obtain ⟨c12, H⟩ : (x3_1 ≤ (l0.length : Int)) ∧ _ := it_ H
    have c12b0 := eq_true c12
    have c12b1 := decide_eq_true c12
    clear c12
    obtain ⟨y460, hy460⟩ : ∃ y_ : List Int, y_ = (l0.take (x3_1 : Int).toNat) := ⟨_, rfl⟩
    first | rw [Option.bind_some, ← hy460] at H | rw [← hy460] at H
    have Ny460 := ak hy460
    clear hy460
    obtain rfl := Option.some.inj H
    have q13 : (x3_1 : Int) ≤ ((l0.length : Int) : Int) := od_
    obtain ⟨i013, hi013, _, hsz13, _⟩ := info_parts info22
    have hcut13 := cut_to (P := Tryd.prog) 33 22 .i64 Tryd.underlying33 hi013 Ao2 l0.length co2 x3_1 od_ q13 (Kd.R_reads' HO_0.out).2.1
    have hr13 := Kd.R_take (m := (x3_1 : Int).toNat) HO_0.out (by omega)
    have hy13 : y460.length = (x3_1 : Int).toNat := (by rw [Ny460.out, List.length_take]; omega)
    rw [← Ny460.out] at hr13
    rw [← hy13] at hr13 hcut13
    clear hy13 hi013 hsz13 HO_0
    have HO462 := ak hr13
    clear hr13
    replace q13 := eq_true q13
    go_wp2
    go_ret
    exact ⟨_, by first | rfl | (simp [errW_none, errW_some] <;> rfl) | (simp [*, errW_none, errW_some] <;> rfl), rU_ HO462.out, bU_ HB.out, by repeat (first | (with_reducible first | exact HK.out | apply Kept.alloc | apply Kept.drewN | apply Kept.drew) | exact HK.out)⟩

set_option maxHeartbeats 8000000 in
set_option maxRecDepth 100000 in
theorem poly_trim.callsB (k : Nat) (P0_ : Nat → Prop) (b0_ : Nat) (u9000_ : Value) (l0 : List Int) (r : List Int) (w : World) (ho0 : Kd.R (Kd.int .u64) 22 w b0_ P0_ u9000_ l0) (h : poly_trim.f k l0 = some r) :
  Calls Tryd.prog 62 #[u9000_] w fun e w' => ∃ v0_ : Value, e = .returned (v0_) ∧ Kd.R (Kd.int .u64) 22 w' b0_ P0_ v0_ r ∧ w' = w := by
 have HO0 := ak (show Kd.R (Kd.int .u64) 22 w b0_ P0_ u9000_ l0 from ho0)
 have H : (poly_trim.l0 k l0 (l0.length : Int)) = some r := h
 clear h
 have H' := ak H
 clear H
 obtain ⟨Ao2, co2, eo2⟩ := Kd.R_slice HO0.out
 subst eo2
 go_enter Tryd.func62, Tryd.ntmps62
 go_wp2
 go_loopg [3] k (fun kq v3 w' => ∃ (x3_1 : Int), v3 = .int .i64 x3_1 ∧ Aside0 (poly_trim.l0 kq l0 x3_1 = some r) ∧ Aside0 (kq ≤ k) ∧ Aside0 (Kd.R (Kd.int .u64) 22 w' b0_ P0_ (.slice Ao2 l0.length co2) l0) ∧ Aside0 (w' = w))
 case atStart => exact ⟨((l0.length : Int)), gb_, H', ⟨Nat.le_refl _⟩, ⟨rU_ HO0.out⟩, ⟨rfl⟩⟩
 case round =>
  clear H'
  try clear p2
  obtain ⟨x3_1, rfl, HA, HK1, HO_0, HWW⟩ := hrel
  cases gk with
  | zero => exact absurd HA.out (by simp [poly_trim.l0])
  | succ k1 =>
   have H := HA.out
   clear HA
   simp only [poly_trim.l0] at H
   by_cases c3 : x3_1 > 0
   ·rw [if_pos c3] at H
    have c3b0 : decide (0 < x3_1) = true := decide_eq_true c3
    clear c3
    obtain ⟨ji4, hji4⟩ : ∃ j_ : Int, (wrap64 (x3_1 - 1)) = j_ := ⟨_, rfl⟩
    first | rw [hji4] at H | simp only [hji4] at H
    have hji4w : (IntKind.i64.wrap (x3_1 - 1)) = ji4 := (i64_w _).trans hji4
    obtain ⟨c5, H⟩ : (0 ≤ (ji4)) ∧ _ := it_ H
    have c5b0 := decide_eq_true c5
    clear c5
    obtain ⟨c6, H⟩ : ((ji4) < (l0.length : Int)) ∧ _ := it_ H
    have c6b0 := decide_eq_true c6
    clear c6
    by_cases c7 : (rd l0 (ji4)) = 0
    ·rw [if_pos c7] at H
     have c7b0 := beq_iff_eq.mpr c7
     have c7b1 := bne_eq_false_iff_eq.mpr c7
     clear c7
     have H' := ak H
     clear H
     have p456 : 0 ≤ ((ji4) : Int) := od_
     have q456 : (ji4) < (l0.length : Int) := od_
     obtain ⟨ad456, e456, hx456_0⟩ := Kd.at_int (Kd.R_reads' HO_0.out).2.2 (ji4) p456 q456
     cases e456
     replace p456 := eq_true p456
     replace q456 := eq_true q456
     go_wp2
     go_roundg k1
     case measure => have := HK1.out; omega
     case rel => exact ⟨(ji4), (by first | rfl | (simp; done) | (simp only [← hji4] <;> (first | rfl | simp)) | (simp [*]; done)), H', ⟨by have := HK1.out; omega⟩, ⟨rU_ HO_0.out⟩, HWW⟩
    ·rw [if_neg c7] at H
     have c7b0 := beq_eq_false_iff_ne.mpr c7
     have c7b1 := bne_iff_ne.mpr c7
     obtain ⟨c8, H⟩ : (0 ≤ x3_1) ∧ _ := it_ H
     have c8b0 := eq_true c8
     have c8b1 := decide_eq_true c8
     clear c8
     obtain ⟨c9, H⟩ : (x3_1 ≤ (l0.length : Int)) ∧ _ := it_ H
     have c9b0 := eq_true c9
     have c9b1 := decide_eq_true c9
     clear c9
     obtain ⟨y457, hy457⟩ : ∃ y_ : List Int, y_ = (l0.take (x3_1 : Int).toNat) := ⟨_, rfl⟩
     first | rw [Option.bind_some, ← hy457] at H | rw [← hy457] at H
     have Ny457 := ak hy457
     clear hy457
     obtain rfl := Option.some.inj H
     have p456 : 0 ≤ ((ji4) : Int) := od_
     have q456 : (ji4) < (l0.length : Int) := od_
     obtain ⟨ad456, e456, hx456_0⟩ := Kd.at_int (Kd.R_reads' HO_0.out).2.2 (ji4) p456 q456
     cases e456
     replace p456 := eq_true p456
     replace q456 := eq_true q456
     have q10 : (x3_1 : Int) ≤ ((l0.length : Int) : Int) := od_
     obtain ⟨i010, hi010, _, hsz10, _⟩ := info_parts info22
     have hcut10 := cut_to (P := Tryd.prog) 33 22 .i64 Tryd.underlying33 hi010 (some ad456) l0.length co2 x3_1 od_ q10 (Kd.R_reads' HO_0.out).2.1
     have hr10 := Kd.R_take (m := (x3_1 : Int).toNat) HO_0.out (by omega)
     have hy10 : y457.length = (x3_1 : Int).toNat := (by rw [Ny457.out, List.length_take]; omega)
     rw [← Ny457.out] at hr10
     rw [← hy10] at hr10 hcut10
     clear hy10 hi010 hsz10 HO_0
     have HO459 := ak hr10
     clear hr10
     replace q10 := eq_true q10
     go_wp2
     go_ret
     exact ⟨_, by first | rfl | (simp [errW_none, errW_some] <;> rfl) | (simp only [← hji4]; first | rfl | (simp [errW_none, errW_some] <;> rfl)) | (simp [*, errW_none, errW_some] <;> rfl), rU_ HO459.out, HWW.out⟩
   ·rw [if_neg c3] at H
    have c3b0 : decide (0 < x3_1) = false := decide_eq_false c3
    clear c3
    obtain ⟨c11, H⟩ : (0 ≤ x3_1) ∧ _ := it_ H
    have c11b0 := eq_true c11
    have c11b1 := decide_eq_true c11
    clear c11
    obtain ⟨c12, H⟩ : (x3_1 ≤ (l0.length : Int)) ∧ _ := it_ H
    have c12b0 := eq_true c12
    have c12b1 := decide_eq_true c12
    clear c12
    obtain ⟨y460, hy460⟩ : ∃ y_ : List Int, y_ = (l0.take (x3_1 : Int).toNat) := ⟨_, rfl⟩
    first | rw [Option.bind_some, ← hy460] at H | rw [← hy460] at H
    have Ny460 := ak hy460
    clear hy460
    obtain rfl := Option.some.inj H
    have q13 : (x3_1 : Int) ≤ ((l0.length : Int) : Int) := od_
    obtain ⟨i013, hi013, _, hsz13, _⟩ := info_parts info22
    have hcut13 := cut_to (P := Tryd.prog) 33 22 .i64 Tryd.underlying33 hi013 Ao2 l0.length co2 x3_1 od_ q13 (Kd.R_reads' HO_0.out).2.1
    have hr13 := Kd.R_take (m := (x3_1 : Int).toNat) HO_0.out (by omega)
    have hy13 : y460.length = (x3_1 : Int).toNat := (by rw [Ny460.out, List.length_take]; omega)
    rw [← Ny460.out] at hr13
    rw [← hy13] at hr13 hcut13
    clear hy13 hi013 hsz13 HO_0
    have HO462 := ak hr13
    clear hr13
    replace q13 := eq_true q13
    go_wp2
    go_ret
    exact ⟨_, by first | rfl | (simp [errW_none, errW_some] <;> rfl) | (simp [*, errW_none, errW_some] <;> rfl), rU_ HO462.out, HWW.out⟩

/-! ### poly_Split: function 37 -/
mutual
def poly_Split.j0 : Nat → Int → List Int → Int → Bool → Option ((List (List Int)))
 | 0, _, _, _, _ => none
 | k + 1, x0, x1, x2, x21 => if x21 = true then (some ([] : List (List Int))) else (if 0 ≤ x2 then (if (x2 : Int).toNat ≤ 11728124029610 then (poly_Split.l0 k x0 x2 (List.replicate (x2 : Int).toNat []) x1 (x1.length : Int) 0) else (none)) else (none))
def poly_Split.l0 : Nat → Int → Int → List (List Int) → List Int → Int → Int → Option ((List (List Int)))
 | 0, _, _, _, _, _, _ => none
 | k + 1, x0, x2, x7, x24, x25, x26 => if x26 < x25 then (if 0 ≤ x26 then (if x26 < (x24.length : Int) then (if x2 = 0 then (none) else (if 0 ≤ (Int.tmod x26 x2) then (if (Int.tmod x26 x2) < (x7.length : Int) then ((field_Reduce.f x0 (rd x24 x26)).bind fun t469 => (if (rd_L1 x7 (Int.tmod x26 x2)).length < 17592186044416 then (poly_Split.l0 k x0 x2 (x7.set ((Int.tmod x26 x2) : Int).toNat ((rd_L1 x7 (Int.tmod x26 x2)) ++ [t469])) x24 x25 (wrap64 (x26 + 1))) else (none))) else (none)) else (none))) else (none)) else (none)) else (poly_Split.l1 k x7 (x7.length : Int) 0)
def poly_Split.l1 : Nat → List (List Int) → Int → Int → Option ((List (List Int)))
 | 0, _, _, _ => none
 | k + 1, x7, x49, x50 => if x50 < x49 then (if 0 ≤ x50 then (if x50 < (x7.length : Int) then ((poly_trim.f k (rd_L1 x7 x50)).bind fun t475 => (poly_Split.l1 k (x7.set (x50 : Int).toNat t475) x49 (wrap64 (x50 + 1)))) else (none)) else (none)) else (some x7)
end
def poly_Split.f (k : Nat) (a0 : Int) (l1 : List Int) (a2 : Int) : Option ((List (List Int))) := (field_Valid.f a0).bind fun t463 => (if t463 = true then (if a2 < 1 then (poly_Split.j0 k a0 l1 a2 true) else (poly_Split.j0 k a0 l1 a2 (decide (a2 > 64)))) else (poly_Split.j0 k a0 l1 a2 true))
def poly_Split.T7 : Bool × List (List Nat × List Nat) := (true, [([], []), ([], []), ([], []), ([1, 2], [1, 2]), ([], []), ([], []), ([], []), ([5, 6], [5, 6]), ([4, 7], [4, 7]), ([8], [8]), ([], []), ([], []), ([10, 11], [10, 11]), ([12], [12]), ([9, 13, 12], [9, 13]), ([0, 3, 0, 1, 2, 3, 4, 5, 6, 7, 8, 9, 10, 11, 12, 13, 14], [0, 3]), ([15, 14, 14, 0, 1, 2, 3, 4, 5, 6, 7, 8, 9, 10, 11, 12, 13, 14], [14, 15])])
def poly_Split.B7 : List Nat := [0, 0, 0, 6, 0, 0, 0, 96, 240, 496, 0, 0, 3072, 7168, 16368, 32767, 65535]
theorem poly_Split.tab7 : rtab .any (opsOf Tryd.f37 7) = poly_Split.T7 := by kernel_rfl
theorem poly_Split.bits7 : waitsOk poly_Split.T7.2 poly_Split.B7 = true := by kernel_rfl
set_option maxHeartbeats 8000000 in
set_option maxRecDepth 100000 in
theorem poly_Split.calls (k : Nat) (a0 : Int) (A1 : Option Addr) (c1 : Nat) (l1 : List Int) (a2 : Int) (r : List (List Int)) (w : World) (hG : Fld w) (hr1 : Kd.C (Kd.int .u64) w A1 l1.length l1) (hc1 : l1.length ≤ c1) (h : poly_Split.f k a0 l1 a2 = some r) :
  Calls Tryd.prog 37 #[.int .i64 a0, .slice A1 l1.length c1, .int .i64 a2] w fun e w' => ∃ v0_ : Value, e = .returned (v0_) ∧ Kd.S (Kd.slice 22 (Kd.int .u64)) 33 w' w.heap.size (fun _ => True) v0_ r ∧ Below w.heap.size w w' := by
 have HG := ak hG
 clear hG
 have HR1 := ak hr1
 have HC1 := ak hc1
 clear hr1 hc1
 have HB := ak (Below.refl w.heap.size w)
 have H : ((field_Valid.f a0).bind fun t463 => (if t463 = true then (if a2 < 1 then (poly_Split.j0 k a0 l1 a2 true) else (poly_Split.j0 k a0 l1 a2 (decide (a2 > 64)))) else (poly_Split.j0 k a0 l1 a2 true))) = some r := h
 clear h
 have HC4 := ak H
 clear H
 go_enter Tryd.func37, Tryd.ntmps37
 go_upto_region 1 with (fail)
 go_cut [21] (fun v21 wc => ∃ (kq : Nat) (x21_3 : Bool), v21 = .bool x21_3 ∧ Aside0 (poly_Split.j0 kq a0 l1 a2 x21_3 = some r) ∧ Aside0 (kq ≤ k) ∧ Aside0 (Below w.heap.size w wc))
 case first =>
  have H := HC4.out
  clear HC4
  revert H
  refine bd_ fun t463 A5 H => ?_
  by_cases c6 : t463 = true
  ·subst c6
   rw [if_pos rfl] at H
   by_cases c7 : a2 < 1
   ·rw [if_pos c7] at H
    have c7b0 := decide_eq_true c7
    clear c7
    (first | rw [c7b0] | (simp only [i64_w, i32_w]; rw [c7b0]) | rw [c7b1] | skip)
    have H' := ak H
    clear H
    go_wp2_with (first | ((with_reducible refine gate_callee (f := 54) rfl ?_); refine gl_ (some 12) Tryd.func54 #[.int .i64 a0] ?_; (with_reducible refine (field_Valid.calls a0 true _ A5.out).mono ?_); rintro e w' ⟨rfl, ⟨nd, rfl⟩⟩; refine ⟨_, rfl, ?_⟩))
    go_meet
    case rel => exact ⟨_, (true), gb_, H', ⟨by first | omega | exact Nat.le_refl _⟩, ⟨bU_ HB.out⟩⟩
   ·rw [if_neg c7] at H
    have c7b0 := decide_eq_false c7
    clear c7
    (first | rw [c7b0] | (simp only [i64_w, i32_w]; rw [c7b0]) | rw [c7b1] | skip)
    have H' := ak H
    clear H
    go_wp2_with (first | ((with_reducible refine gate_callee (f := 54) rfl ?_); refine gl_ (some 12) Tryd.func54 #[.int .i64 a0] ?_; (with_reducible refine (field_Valid.calls a0 true _ A5.out).mono ?_); rintro e w' ⟨rfl, ⟨nd, rfl⟩⟩; refine ⟨_, rfl, ?_⟩))
    go_meet
    case rel => exact ⟨_, (decide (a2 > 64)), gb_, H', ⟨by first | omega | exact Nat.le_refl _⟩, ⟨bU_ HB.out⟩⟩
  ·replace c6 := Bool.eq_false_iff.mpr c6
   subst c6
   rw [if_neg (show ¬ (false = true) by decide)] at H
   have H' := ak H
   clear H
   go_wp2_with (first | ((with_reducible refine gate_callee (f := 54) rfl ?_); refine gl_ (some 12) Tryd.func54 #[.int .i64 a0] ?_; (with_reducible refine (field_Valid.calls a0 false _ A5.out).mono ?_); rintro e w' ⟨rfl, ⟨nd, rfl⟩⟩; refine ⟨_, rfl, ?_⟩))
   go_meet
   case rel => exact ⟨_, (true), gb_, H', ⟨by first | omega | exact Nat.le_refl _⟩, ⟨bU_ HB.out⟩⟩
 case rest =>
  clear HC4
  (try clear c1); (try clear p2); (try clear c3); (try clear c5); (try clear c6); (try clear c7); (try clear c7b0); (try clear c7b1)
  obtain ⟨kq, x21_3, rfl, HA, HJ3, HB⟩ := hcut
  cases kq with
  | zero => exact absurd HA.out (by simp [poly_Split.j0])
  | succ kj3 =>
   have H := HA.out
   clear HA
   simp only [poly_Split.j0] at H
   by_cases c8 : x21_3 = true
   ·subst c8
    rw [if_pos rfl] at H
    obtain rfl := Option.some.inj H
    go_wp2
    go_ret
    exact ⟨_, by first | rfl | (simp [errW_none, errW_some] <;> rfl) | (simp [*, errW_none, errW_some] <;> rfl), by first | exact Kd.S_nil _ _ _ _ _ | exact Kd.N_nil _ _ _ _ _ | exact Kd.V_nil _ _ _ _ _ | exact Kd.Q_nil _ _ _ _ _ | exact Kd.R_nil _ _ _ _ _, bU_ HB.out⟩
   ·replace c8 := Bool.eq_false_iff.mpr c8
    subst c8
    rw [if_neg (show ¬ (false = true) by decide)] at H
    obtain ⟨c9, H⟩ : (0 ≤ a2) ∧ _ := it_ H
    have c9b0 := eq_true c9
    have c9b1 := decide_eq_true c9
    clear c9
    obtain ⟨c10, H⟩ : ((a2 : Int).toNat ≤ 11728124029610) ∧ _ := it_ H
    have c10b0 := eq_true c10
    have c10b1 := decide_eq_true c10
    clear c10
    obtain ⟨y464, hy464⟩ : ∃ y_ : List (List Int), y_ = (List.replicate (a2 : Int).toNat []) := ⟨_, rfl⟩
    replace H : (poly_Split.l0 kj3 a0 a2 y464 l1 (l1.length : Int) 0) = some r := by first | (rw [hy464]; with_reducible exact H) | (have H2_ := (Option.bind_some _ _).symm.trans H; rw [hy464]; with_reducible exact H2_) | (have H2_ := (Option.bind_some _ _).symm.trans H; with_reducible exact H2_) | with_reducible exact H | (rw [hy464]; exact H) | exact H
    have Ny464 := ak hy464
    clear hy464
    have H' := ak H
    clear H
    go_wp2_with (first | ((with_reducible refine gate_dst (N := 23) rfl ?_); refine Kd.S_make (Kd.slice 22 (Kd.int .u64)) _ 33 rfl (N := 23) rfl 46 _ _ rfl a2 ?hx ?hy Tryd.underlying46 (.slice none 0 0) 24 info33 rfl (by decide) (by omega) [] (ok := fun _ => True) (okp := fun _ => True) ⟨_, rfl, Kd.R_nil _ _ _ _ _⟩ (fun _ hk => hk) trivial od_ (Nat.le_trans (Nat.mul_le_mul_right _ (od_ : a2.toNat ≤ 11728124029610)) (by omega)) (Below.refl _ _) (Nat.le_refl _) ?_; (case hx => first | rfl); (case hy => first | rfl); intro v465 w11 ho12 hb hg_ hnew_; clear hg_ hnew_; (first | rw [← Ny464.out] at ho12 | (simp only [Int.reduceToNat] at ho12; rw [← Ny464.out] at ho12)); refine nx2_ (Kd.S_lower ho12 (below_size (bU_ HB.out))) (below_step (bU_ HB.out) hb) ?_; clear HB; intro HO466 HB; clear hb ho12))
    go_loopg [26] kj3 (fun kq v26 w' => ∃ (x7_2 : List (List Int)) (x26_2 : Int), v26 = .int .i64 x26_2 ∧ Aside0 (poly_Split.l0 kq a0 a2 x7_2 l1 (l1.length : Int) x26_2 = some r) ∧ Aside0 (kq ≤ kj3) ∧ Aside0 (Kd.S (Kd.slice 22 (Kd.int .u64)) 33 w' w.heap.size (fun _ => True) v465 x7_2) ∧ Aside0 (Below w.heap.size w w'))
    case atStart => exact ⟨(y464), (0), gb_, H', ⟨Nat.le_refl _⟩, ⟨by (with_reducible repeat (first | apply Kd.S_alloc | apply Kd.S_drewN | apply Kd.S_drew)); exact HO466.out⟩, ⟨bU_ HB.out⟩⟩
    case round =>
     clear H'
     (try clear c1); (try clear p2); (try clear c3); (try clear c5); (try clear c6); (try clear c7); (try clear c7b0); (try clear c7b1); (try clear c8); (try clear c9); (try clear c9b0); (try clear c9b1); (try clear c10); (try clear c10b0); (try clear c10b1)
     obtain ⟨x7_2, x26_2, rfl, HA, HK2, HO_7, HB⟩ := hrel
     cases gk with
     | zero => exact absurd HA.out (by simp [poly_Split.l0])
     | succ k2 =>
      have H := HA.out
      clear HA
      simp only [poly_Split.l0] at H
      by_cases c13 : x26_2 < (l1.length : Int)
      ·rw [if_pos c13] at H
       have c13b0 := decide_eq_true c13
       clear c13
       obtain ⟨c14, H⟩ : (0 ≤ x26_2) ∧ _ := it_ H
       have c14b0 := decide_eq_true c14
       clear c14
       obtain ⟨c15, H⟩ : (x26_2 < (l1.length : Int)) ∧ _ := it_ H
       have c15b0 := decide_eq_true c15
       clear c15
       by_cases c16 : a2 = 0
       ·rw [if_pos c16] at H
        exact absurd H (by simp)
       ·rw [if_neg c16] at H
        have c16b0 := beq_eq_false_iff_ne.mpr c16
        have c16b1 := bne_iff_ne.mpr c16
        obtain ⟨ji17, hji17⟩ : ∃ j_ : Int, (Int.tmod x26_2 a2) = j_ := ⟨_, rfl⟩
        first | rw [hji17] at H | simp only [hji17] at H
        obtain ⟨c18, H⟩ : (0 ≤ (ji17)) ∧ _ := it_ H
        have c18b0 := decide_eq_true c18
        clear c18
        obtain ⟨c19, H⟩ : ((ji17) < (x7_2.length : Int)) ∧ _ := it_ H
        have c19b0 := decide_eq_true c19
        clear c19
        revert H
        refine bd_ fun t469 A20 H => ?_
        obtain ⟨c21, H⟩ : ((rd_L1 x7_2 (ji17)).length < 17592186044416) ∧ _ := it_ H
        have LMc21 := ak c21
        clear c21
        obtain ⟨y470, hy470⟩ : ∃ y_ : List Int, y_ = ((rd_L1 x7_2 (ji17)) ++ [t469]) := ⟨_, rfl⟩
        first | rw [Option.bind_some, ← hy470] at H | rw [← hy470] at H
        have Ny470 := ak hy470
        clear hy470
        obtain ⟨y473, hy473⟩ : ∃ y_ : List (List Int), y_ = (x7_2.set ((ji17) : Int).toNat y470) := ⟨_, rfl⟩
        replace H : (poly_Split.l0 k2 a0 a2 y473 l1 (l1.length : Int) (wrap64 (x26_2 + 1))) = some r := by first | (rw [hy473]; with_reducible exact H) | (have H2_ := (Option.bind_some _ _).symm.trans H; rw [hy473]; with_reducible exact H2_) | (have H2_ := (Option.bind_some _ _).symm.trans H; with_reducible exact H2_) | with_reducible exact H | (rw [hy473]; exact H) | exact H
        have Ny473 := ak hy473
        clear hy473
        have H' := ak H
        clear H
        have p467 : 0 ≤ (x26_2 : Int) := od_
        have q467 : x26_2 < (l1.length : Int) := od_
        obtain ⟨ad467, e467, hx467_0⟩ := Kd.at_int HR1.out x26_2 p467 q467
        cases e467
        replace hx467_0 := (HB.out.cell (World.block_lt_of_cell? w _ hx467_0)).trans hx467_0
        replace p467 := eq_true p467
        replace q467 := eq_true q467
        try go_wp2
        refine nx2_ (Kd.S_drew HO_7.out) (below_drew1 HB.out) ?_
        clear HO_7 HB
        intro HO_7 HB
        obtain ⟨Ao24, co24, eo24⟩ := Kd.S_slice HO_7.out
        (first | subst eo24 | (injection eo24 with f1_ f2_ f3_; have f4_ := f1_.symm; have f5_ := f3_.symm; clear f1_ f2_ f3_; subst f4_; subst f5_))
        have p468 : 0 ≤ ((ji17) : Int) := od_
        have q468 : (ji17) < (x7_2.length : Int) := od_
        obtain ⟨ad468, A468_0, c468_0, e468, hx468_0, hl468_0, hi468_0⟩ := at_L1 (Kd.S_reads' HO_7.out).2.2 (ji17) p468 q468
        cases e468
        obtain ⟨ce468, hce468, hMe468, hcc468⟩ := Kd.S_get HO_7.out [] (ji17) p468 (by first | exact q468 | exact od_ | (have e_ := (Kd.S_reads' HO_7.out).1; omega))
        obtain ⟨ve468_0, rfl, ge468_0⟩ := hMe468
        have hv468_0 := hcc468 0 _ rfl
        rw [Nat.add_zero, show ((Kd.slice 22 (Kd.int .u64))).sz = 1 from rfl, Nat.mul_one] at hv468_0
        replace hv468_0 := Option.some.inj (hv468_0.symm.trans hx468_0)
        rw [hv468_0] at ge468_0
        have HL468_0 := ak (show Kd.R (Kd.int .u64) 22 _ _ _ _ (rd_L1 x7_2 (ji17)) from ge468_0)
        clear hv468_0 ge468_0
        have HX468_0 := ak hx468_0
        clear hcc468 hce468
        have HR468_0 := ak hi468_0
        have HC468_0 := ak hl468_0
        clear hi468_0 hl468_0
        replace p468 := eq_true p468
        replace q468 := eq_true q468
        refine start_ (n := 17) (S := fun w' => w'.cell? (ad468.add ((ji17)).toNat) = some (.slice A468_0 (rd_L1 x7_2 (ji17)).length c468_0)) (ds := [16]) (bv 17 0) (by kernel_rfl) rfl rfl (hx468_0) (fun hHeld => ?_); refine with_tabW poly_Split.tab7 poly_Split.bits7 (fun HT_ HW_ => ?_)
        generalize wr.drew = w23 at HO_7 HB HL468_0 HR468_0 HX468_0 hx468_0 hHeld ⊢
        refine pr_ (i := 0) (N := some 31) (v := ?_) (a' := ?_) (bv 17 1) HT_.out ?_ ?_ ?_; rotate_left 2; (intro w'; go_simp; with_reducible rfl); (simp only [Act.put, s1_, s2_, s3_, i64_w, i32_w]; rfl)
        refine pr_ (i := 1) (N := some 32) (v := ?_) (a' := ?_) (bv 17 3) HT_.out ?_ ?_ ?_; rotate_left 2; (intro w'; go_simp; with_reducible rfl); (simp only [Act.put, s1_, s2_, s3_, i64_w, i32_w]; rfl)
        refine pr_ (i := 2) (N := some 33) (v := ?_) (a' := ?_) (bv 17 7) HT_.out ?_ ?_ ?_; rotate_left 2; (intro w'; go_simp; with_reducible rfl); (simp only [Act.put, s1_, s2_, s3_, i64_w, i32_w]; rfl)
        refine pr_ (i := 3) (N := some 34) (v := ?_) (a' := ?_) (bv 17 15) HT_.out ?_ ?_ ?_; rotate_left 2; (intro w'; go_simp; with_reducible rfl); (simp only [Act.put, s1_, s2_, s3_, i64_w, i32_w]; rfl)
        refine pr_ (i := 4) (N := some 35) (v := ?_) (a' := ?_) (bv 17 31) HT_.out ?_ ?_ ?_; rotate_left 2; (intro w'; go_simp; with_reducible rfl); (simp only [Act.put, s1_, s2_, s3_, i64_w, i32_w]; rfl)
        refine pr_ (i := 5) (N := some 36) (v := ?_) (a' := ?_) (bv 17 63) HT_.out ?_ ?_ ?_; rotate_left 2; (intro w'; go_simp; with_reducible rfl); (simp only [Act.put, s1_, s2_, s3_, i64_w, i32_w]; rfl)
        refine pr_ (i := 6) (N := some 37) (v := ?_) (a' := ?_) (bv 17 127) HT_.out ?_ ?_ ?_; rotate_left 2; (intro w'; go_simp; with_reducible rfl); (simp only [Act.put, s1_, s2_, s3_, i64_w, i32_w]; rfl)
        refine pr_ (i := 7) (N := some 38) (v := ?_) (a' := ?_) (bv 17 255) HT_.out ?_ ?_ ?_; rotate_left 2; (intro w'; go_simp; with_reducible rfl); (simp only [Act.put, s1_, s2_, s3_, i64_w, i32_w]; rfl)
        refine pr_ (i := 8) (N := some 39) (v := ?_) (a' := ?_) (bv 17 511) HT_.out ?_ ?_ ?_; rotate_left 2; (intro w'; go_simp; with_reducible rfl); (simp only [Act.put, s1_, s2_, s3_, i64_w, i32_w]; rfl)
        refine pr_ (i := 10) (N := some 41) (v := ?_) (a' := ?_) (bv 17 1535) HT_.out ?_ ?_ ?_; rotate_left 2; (intro w'; go_simp; with_reducible rfl); (simp only [Act.put, s1_, s2_, s3_, i64_w, i32_w]; rfl)
        refine pr_ (i := 11) (N := some 42) (v := ?_) (a' := ?_) (bv 17 3583) HT_.out ?_ ?_ ?_; rotate_left 2; (intro w'; go_simp; with_reducible rfl); (simp only [Act.put, s1_, s2_, s3_, i64_w, i32_w]; rfl)
        refine take_ (i := 9) (N := some 40) (v := ?_) (a' := ?_) (bv 17 4095) rfl rfl (take_ofW HT_.out HW_.out (by kernel_rfl)) (fun _ _ _ h => h) (Or.inl ⟨by rfl, ?_⟩) hHeld ?_ ?_
        rotate_left
        ·intro w' s0
         go_simp
         with_reducible rfl
        rotate_left
        ·simp only [Act.put, s1_, s2_, s3_, i64_w, i32_w]
         rfl
        refine one_ (i := 12) (N := some 43) (bv 17 8191) rfl rfl (one_of HT_.out (by kernel_rfl)) (by decide) (fun K hK => ?_)
        refine goes_ Tryd.func22 (by kernel_rfl) rfl #[.int .i64 a0, .int .u64 (rd l1 x26_2)] (by rfl) rfl rfl ga_ ?_
        with_reducible refine (field_Reduce.calls a0 (rd l1 x26_2) t469 _ ?side1 A20.out).mono ?_
        (case side1 => exact fU_ HG.out HB.out)
        rintro e w25 ⟨rfl, hb⟩
        have HS0_ := (hb.cell (World.block_lt_of_cell? _ _ (hHeld))).trans (hHeld)
        refine ⟨_, rfl, ?_⟩
        refine nx5_ (Kd.S_below (by (with_reducible repeat (first | apply Kd.S_alloc | apply Kd.S_drewN | apply Kd.S_drew)); exact HO_7.out) hb) (Kd.R_below (rU_ HL468_0.out) hb) (Kd.C_below (by repeat (first | (with_reducible exact HR468_0.out) | (with_reducible refine Kd.C_alloc ?_ _) | (with_reducible refine Kd.C_drewN ?_ _) | (with_reducible refine Kd.C_drew ?_) | exact HR468_0.out)) hb) (pw_cell_below hb HX468_0.out) (below_step (bU_ HB.out) hb) ?_
        clear HO_7 HL468_0 HR468_0 HX468_0 HB
        intro HO_7 HL468_0 HR468_0 HX468_0 HB
        (try clear hb)
        (try clear hb2)
        (try clear hk)
        (try clear hi)
        obtain ⟨go26, co26, eo26, gb26, gl26, cl26, HG26⟩ := Kd.S_form HO_7.out (by have h_ : ((ji17) : Int) < ((x7_2.length : Int) : Int) := od_; have h2_ : 0 ≤ ((ji17) : Int) := od_; omega)
        (first | cases eo26 | (injection eo26 with ea_ en_ ec_; (first | subst ea_ | (injection ea_ with ea_; subst ea_)); subst ec_; clear en_))
        have GB26 := ak gb26
        have GG26 := ak HG26
        clear gb26 gl26 HG26
        (first | simp only [add_plain] at hx468_0 | skip)
        obtain ⟨oki26, ce26, hcl26, hM26, hcc26, _, _, hH26⟩ := Kd.S_elem HO_7.out [] ((ji17) : Int) od_ (by have h_ : ((ji17) : Int) < ((x7_2.length : Int) : Int) := od_; first | exact h_ | (have e_ := (Kd.S_reads' HO_7.out).1; omega) | simpa using h_)
        obtain ⟨ve26_0, rfl, ge26_0⟩ := hM26
        have hv26 := hcc26 0 _ rfl
        have hX26 := HX468_0.out
        (try simp only [add_plain] at hX26)
        (try simp only [Nat.add_zero] at hv26)
        (try rw [show ((Kd.slice 22 (Kd.int .u64))).sz = 1 from rfl, Nat.mul_one] at hv26)
        replace hv26 := Option.some.inj (hv26.symm.trans hX26)
        subst hv26
        clear hX26 hcc26 hcl26
        have UU26 := ak (show Kd.R (Kd.int .u64) 22 _ w.heap.size oki26 (.slice A468_0 (rd_L1 x7_2 (ji17)).length c468_0) (rd_L1 x7_2 (ji17)) from ge26_0)
        have HH26 := ak hH26
        have HN26 := ak (Kd.S_reads' HO_7.out).1
        clear hH26 ge26_0
        refine hK.out _ _ (HS0_) (fun hHeld => ?_)
        clear hK K
        refine norm_ (a' := ?_) ?_ ?_
        rotate_left
        ·show Act.put _ (some 43) _ = _
         simp only [Act.put, s1_, s2_, s3_, i64_w, i32_w]
         rfl
        refine one_ (i := 13) (N := some 44) (bv 17 16383) rfl rfl (one_of HT_.out (by kernel_rfl)) (by decide) (fun K hK => ?_)
        refine value_ (w1 := ?_) (v := ?_) (by rfl) rfl ?_ ?_
        rotate_left 2
        ·go_simp
         constructor
         ·rfl
         ·rfl
        refine hK.out _ _ ((World.cell?_alloc_lt _ _ _ (World.block_lt_of_cell? _ _ (hHeld))).trans (hHeld)) (fun hHeld => ?_)
        clear hK K
        refine norm_ (a' := ?_) ?_ ?_
        rotate_left
        ·show Act.put _ (some 44) _ = _
         simp only [Act.put, s1_, s2_, s3_, i64_w, i32_w]
         rfl
        refine one_ (i := 14) (N := some 45) (bv 17 32767) rfl rfl (one_of HT_.out (by kernel_rfl)) (by decide) (fun K hK => ?_)
        refine Kd.R_append_step (Kd.int .u64) (w0 := w) w.heap.size (by rfl) (.tmp 40) (.tmp 44) 33 22 (.int .u64 0) 8 rfl Tryd.underlying33 info22 rfl (by decide) (by omega) (.slice A468_0 (rd_L1 x7_2 (ji17)).length c468_0) (rd_L1 x7_2 (ji17)) t469 [.int .u64 t469] (fun k_ => oki26 k_ ∨ ((fun _ => True)) k_ ∧ w25.heap.size ≤ k_) (fun _ => False) rfl rfl ?aP (fun _ hk => hk.elim) ?aF ?aO ?aB ?aS ?aL ?_
        (case aP => exact rfl)
        (case aB => exact (bU_ HB.out))
        (case aF => exact (fun k_ hk => .inr ⟨trivial, hk⟩))
        (case aO => exact (Kd.R_mono (rU_ UU26.out) (fun _ hk => .inl hk)))
        (case aS => exact (below_size (bU_ HB.out)))
        (case aL => have := LMc21.out; omega)
        intro v471 w27 ho hb hg hat
        (first | have HS0_ := cell_grown hg (hHeld) (by first | (rw [add_block]; exact (fun e_ => ((HL468_0.out.1 _ e_.symm).2) rfl)) | (show some (Addr.add _ _).block ≠ _; rw [add_block]; exact (fun e_ => ((HL468_0.out.1 _ e_.symm).2) rfl)) | exact (fun e_ => ((HL468_0.out.1 _ e_.symm).2) rfl)) | have HS0_ := cell_grown hg (cell_unalloc (hHeld) (by first | (rw [add_block]; exact Kd.S_lt HO_7.out _ rfl) | (show (Addr.add _ _).block < _; rw [add_block]; exact Kd.S_lt HO_7.out _ rfl) | exact Kd.S_lt HO_7.out _ rfl)) (by first | (rw [add_block]; exact (fun e_ => ((HL468_0.out.1 _ e_.symm).2) rfl)) | (show some (Addr.add _ _).block ≠ _; rw [add_block]; exact (fun e_ => ((HL468_0.out.1 _ e_.symm).2) rfl)) | exact (fun e_ => ((HL468_0.out.1 _ e_.symm).2) rfl)))
        rw [← Ny470.out] at ho
        refine nx3_ (hb) (Kd.H_grown (Kd.H_widen (by repeat (first | exact HH26.out | refine Kd.H_alloc ?_ _ | refine Kd.H_drewN ?_ _ | refine Kd.H_drew ?_))) hg (fun k_ e_ => .inl (UU26.out.1 k_ e_))) (ho) ?_
        clear HB HH26 HO_7 UU26 HL468_0
        intro HB HH26 HO472
        clear ho hb hg hat
        have p22 : 0 ≤ ((ji17) : Int) := od_
        have q22 : ((ji17) : Int) < ((x7_2.length : Int) : Int) := od_
        replace p22 := eq_true p22
        replace q22 := eq_true q22
        obtain ⟨Ao30, co30, eo30⟩ := Kd.R_slice HO472.out
        (first | subst eo30 | (injection eo30 with f1_ f2_ f3_; have f4_ := f1_.symm; have f5_ := f3_.symm; clear f1_ f2_ f3_; subst f4_; subst f5_))
        obtain ⟨_, _, hraw28, _, _, hcc28, _⟩ := Kd.H_raw HH26.out od_ (by have h_ : ((ji17) : Int) < ((x7_2.length : Int) : Int) := od_; first | exact h_ | (have e_ := (HN26.out); omega) | simpa using h_)
        obtain ⟨_, hfr28⟩ := Kd.H_at HH26.out od_ (by have h_ : ((ji17) : Int) < ((x7_2.length : Int) : Int) := od_; first | exact h_ | (have e_ := (HN26.out); omega) | simpa using h_)
        have hx28_0 := hcc28 0 _ rfl
        have hf28_0 := hfr28 0
        (try simp only [Nat.add_zero] at hx28_0 hf28_0)
        (try rw [show ((Kd.slice 22 (Kd.int .u64))).sz = 1 from rfl, Nat.mul_one] at hx28_0)
        (try rw [show ((Kd.slice 22 (Kd.int .u64))).sz = 1 from rfl, Nat.mul_one] at hf28_0)
        have HP28 := Kd.S_seg0 HH26.out od_ (by have h_ : ((ji17) : Int) < ((x7_2.length : Int) : Int) := od_; first | exact h_ | (have e_ := (HN26.out); omega) | simpa using h_) (seg := [.slice Ao30 y470.length co30]) (j := 0) (show 1 ≤ 1 from by decide) (x' := y470) (Kd.M_row HO472.out) (fun _ hk => hk)
        (try simp only [show ((Kd.slice 22 (Kd.int .u64))).sz = 1 from rfl, Nat.mul_one, Nat.add_zero] at HP28)
        clear hcc28 hfr28
        have HS28 := HP28.1
        rw [← Ny473.out] at HS28
        have HQ28 := ak HS28
        obtain ⟨_, hgg28⟩ := Kd.R_typed hraw28 go26 rfl
        have GG28_ := ak hgg28
        clear HP28 HS28 hgg28
        refine hK.out _ _ (HS0_) (fun hHeld => ?_)
        clear hK K
        refine norm_ (a' := ?_) ?_ ?_
        rotate_left
        ·show Act.put _ (some 45) _ = _
         simp only [Act.put, s1_, s2_, s3_, i64_w, i32_w]
         rfl
        refine pr_ (i := 15) (N := some 46) (v := ?_) (a' := ?_) (bv 17 65535) HT_.out ?_ ?_ ?_; rotate_left 2; (intro w'; go_simp; with_reducible rfl); (simp only [Act.put, s1_, s2_, s3_, i64_w, i32_w]; rfl)
        refine last_ (i := 16) (N := none) #[true, true, true, true, true, true, true, true, true, true, true, true, true, true, true, true, true] rfl rfl (one_of HT_.out (by kernel_rfl)) (by decide) (fun K hK => ?_)
        refine skip_ (w1 := ?_) (by rfl) rfl ?_ ?_
        rotate_left
        ·go_simp
         rfl
        refine hK.out _ _ ?_
        clear hK K
        refine done_ (done_of HT_.out (by kernel_rfl)) ?_
        try go_wp2
        go_roundg k2
        case measure => have := HJ3.out; have := HK2.out; omega
        case rel => exact ⟨(y473), (wrap64 (x26_2 + 1)), gb_, H', ⟨by have := HJ3.out; have := HK2.out; omega⟩, ⟨by (with_reducible repeat (first | apply Kd.S_alloc | apply Kd.S_drewN | apply Kd.S_drew)); exact HQ28.out⟩, ⟨by repeat (first | (with_reducible first | exact HB.out | apply below_alloc | apply pw_below_drewN | apply below_drew1 | refine below_set ?_ GB26.out) | exact HB.out)⟩⟩
      ·rw [if_neg c13] at H
       have c13b0 := decide_eq_false c13
       clear c13
       have H' := ak H
       clear H
       obtain ⟨Ao31, co31, eo31⟩ := Kd.S_slice HO_7.out
       subst eo31
       go_wp2
       go_loopg [50] k2 (fun kq v50 w' => ∃ (x7_3 : List (List Int)) (x50_3 : Int), v50 = .int .i64 x50_3 ∧ Aside0 (poly_Split.l1 kq x7_3 (x7_2.length : Int) x50_3 = some r) ∧ Aside0 (kq ≤ k2) ∧ Aside0 (Kd.S (Kd.slice 22 (Kd.int .u64)) 33 w' w.heap.size (fun _ => True) (.slice Ao31 x7_2.length co31) x7_3) ∧ Aside0 (Below w.heap.size w w'))
       case atStart => exact ⟨(x7_2), (0), gb_, H', ⟨Nat.le_refl _⟩, ⟨by (with_reducible repeat (first | apply Kd.S_alloc | apply Kd.S_drewN | apply Kd.S_drew)); exact HO_7.out⟩, ⟨bU_ HB.out⟩⟩
       case round =>
        clear H'
        (try clear c1); (try clear c2); (try clear p2); (try clear q2); (try clear hx2); (try clear c3); (try clear c4); (try clear p4); (try clear q4); (try clear hx4); (try clear c5); (try clear c6); (try clear p6); (try clear c7); (try clear c7b0); (try clear c7b1); (try clear c8); (try clear c9); (try clear c9b0); (try clear c9b1); (try clear c10); (try clear c10b0); (try clear c10b1); (try clear c13); (try clear c13b0); (try clear c14); (try clear c14b0); (try clear c15); (try clear c15b0); (try clear c16); (try clear c16b0); (try clear c16b1); (try clear c18); (try clear c18b0); (try clear c19); (try clear c19b0); (try clear c21); (try clear c22); (try clear p22); (try clear q22); (try clear c26); (try clear c28); (try clear hx28); (try clear hf28); (try clear hx28_0); (try clear hx467_0); (try clear hx468_0); (try clear p467); (try clear p468); (try clear q467); (try clear q468)
        obtain ⟨x7_3, x50_3, rfl, HA, HK3, HO_7, HB⟩ := hrel
        have hl7_3 := (Kd.S_reads' HO_7.out).1
        rw [hl7_3] at HO_7
        (try simp only [hl7_3])
        cases gk with
        | zero => exact absurd HA.out (by simp [poly_Split.l1])
        | succ k3 =>
         have H := HA.out
         clear HA
         simp only [poly_Split.l1] at H
         by_cases c32 : x50_3 < (x7_2.length : Int)
         ·rw [if_pos c32] at H
          have c32b0 := decide_eq_true c32
          (try (have c32b0r0 := c32b0; simp only [hl7_3] at c32b0r0))
          clear c32
          obtain ⟨c33, H⟩ : (0 ≤ x50_3) ∧ _ := it_ H
          have c33b0 := decide_eq_true c33
          clear c33
          obtain ⟨c34, H⟩ : (x50_3 < (x7_3.length : Int)) ∧ _ := it_ H
          have c34b0 := decide_eq_true c34
          clear c34
          revert H
          refine bd_ fun t475 A35 H => ?_
          obtain ⟨y478, hy478⟩ : ∃ y_ : List (List Int), y_ = (x7_3.set (x50_3 : Int).toNat t475) := ⟨_, rfl⟩
          replace H : (poly_Split.l1 k3 y478 (x7_2.length : Int) (wrap64 (x50_3 + 1))) = some r := by first | (rw [hy478]; with_reducible exact H) | (have H2_ := (Option.bind_some _ _).symm.trans H; rw [hy478]; with_reducible exact H2_) | (have H2_ := (Option.bind_some _ _).symm.trans H; with_reducible exact H2_) | with_reducible exact H | (rw [hy478]; exact H) | exact H
          have Ny478 := ak hy478
          clear hy478
          have H' := ak H
          clear H
          have p474 : 0 ≤ (x50_3 : Int) := od_
          have q474 : x50_3 < (x7_3.length : Int) := od_
          obtain ⟨ad474, A474_0, c474_0, e474, hx474_0, hl474_0, hi474_0⟩ := at_L1 (Kd.S_reads' HO_7.out).2.2 x50_3 p474 q474
          cases e474
          obtain ⟨ce474, hce474, hMe474, hcc474⟩ := Kd.S_get HO_7.out [] x50_3 p474 (by first | exact q474 | exact od_ | (have e_ := (Kd.S_reads' HO_7.out).1; omega))
          obtain ⟨ve474_0, rfl, ge474_0⟩ := hMe474
          have hv474_0 := hcc474 0 _ rfl
          rw [Nat.add_zero, show ((Kd.slice 22 (Kd.int .u64))).sz = 1 from rfl, Nat.mul_one] at hv474_0
          replace hv474_0 := Option.some.inj (hv474_0.symm.trans hx474_0)
          rw [hv474_0] at ge474_0
          have HL474_0 := ak (show Kd.R (Kd.int .u64) 22 _ _ _ _ (rd_L1 x7_3 x50_3) from ge474_0)
          clear hv474_0 ge474_0
          have HX474_0 := ak hx474_0
          clear hcc474 hce474
          have HR474_0 := ak hi474_0
          have HC474_0 := ak hl474_0
          clear hi474_0 hl474_0
          replace p474 := eq_true p474
          replace q474 := eq_true q474
          obtain ⟨go37, co37, eo37, gb37, gl37, cl37, HG37⟩ := Kd.S_form HO_7.out (by have h_ : (x50_3 : Int) < ((x7_3.length : Int) : Int) := od_; have h2_ : 0 ≤ (x50_3 : Int) := od_; omega)
          (first | cases eo37 | (injection eo37 with ea_ en_ ec_; (first | subst ea_ | (injection ea_ with ea_; subst ea_)); subst ec_; clear en_))
          have GB37 := ak gb37
          have GG37 := ak HG37
          clear gb37 gl37 HG37
          (first | simp only [add_plain] at hx474_0 | skip)
          obtain ⟨oki37, ce37, hcl37, hM37, hcc37, _, _, hH37⟩ := Kd.S_elem HO_7.out [] (x50_3 : Int) od_ (by have h_ : (x50_3 : Int) < ((x7_3.length : Int) : Int) := od_; first | exact h_ | (have e_ := (Kd.S_reads' HO_7.out).1; omega) | simpa using h_)
          obtain ⟨ve37_0, rfl, ge37_0⟩ := hM37
          have hv37 := hcc37 0 _ rfl
          have hX37 := HX474_0.out
          (try simp only [add_plain] at hX37)
          (try simp only [Nat.add_zero] at hv37)
          (try rw [show ((Kd.slice 22 (Kd.int .u64))).sz = 1 from rfl, Nat.mul_one] at hv37)
          replace hv37 := Option.some.inj (hv37.symm.trans hX37)
          subst hv37
          clear hX37 hcc37 hcl37
          have UU37 := ak (show Kd.R (Kd.int .u64) 22 _ w.heap.size oki37 (.slice A474_0 (rd_L1 x7_3 x50_3).length c474_0) (rd_L1 x7_3 x50_3) from ge37_0)
          have HH37 := ak hH37
          have HN37 := ak (Kd.S_reads' HO_7.out).1
          clear hH37 ge37_0
          go_wp2_with (first | (go_at_call 62; (with_reducible refine (poly_trim.callsB k3 (fun k_ => oki37 k_ ∨ ((fun _ => True)) k_ ∧ wr.heap.size ≤ k_) w.heap.size (.slice A474_0 (rd_L1 x7_3 x50_3).length c474_0) (rd_L1 x7_3 x50_3) t475 _ ?aO A35.out).mono ?_); (case aO => exact (Kd.R_mono (rU_ UU37.out) (fun _ hk => .inl hk))); rintro e w38 ⟨v476, rfl, ho, hw_⟩; have hb : Below w.heap.size w w38 := (by rw [hw_]; exact (bU_ HB.out)); have hg : World.grownBy wr w38 (.slice A474_0 (rd_L1 x7_3 x50_3).length c474_0 : Value).ownBlock := (by rw [hw_]; exact World.grownBy.refl _ _); have hat := hw_; clear hw_; refine nx3_ (hb) (Kd.H_grown (Kd.H_widen (by repeat (first | exact HH37.out | refine Kd.H_alloc ?_ _ | refine Kd.H_drewN ?_ _ | refine Kd.H_drew ?_))) hg (fun k_ e_ => .inl (UU37.out.1 k_ e_))) (ho) ?_; clear HB HH37 HO_7 UU37 HL474_0; intro HB HH37 HO477; clear ho hb hg hat; have p36 : 0 ≤ (x50_3 : Int) := od_; have q36 : (x50_3 : Int) < ((x7_3.length : Int) : Int) := od_; replace p36 := eq_true p36; replace q36 := eq_true q36; obtain ⟨Ao41, co41, eo41⟩ := Kd.R_slice HO477.out; subst eo41; obtain ⟨_, _, hraw39, _, _, hcc39, _⟩ := Kd.H_raw HH37.out od_ (by have h_ : (x50_3 : Int) < ((x7_3.length : Int) : Int) := od_; first | exact h_ | (have e_ := (HN37.out); omega) | simpa using h_); obtain ⟨_, hfr39⟩ := Kd.H_at HH37.out od_ (by have h_ : (x50_3 : Int) < ((x7_3.length : Int) : Int) := od_; first | exact h_ | (have e_ := (HN37.out); omega) | simpa using h_); have hx39_0 := hcc39 0 _ rfl; have hf39_0 := hfr39 0; (try simp only [Nat.add_zero] at hx39_0 hf39_0); (try rw [show ((Kd.slice 22 (Kd.int .u64))).sz = 1 from rfl, Nat.mul_one] at hx39_0); (try rw [show ((Kd.slice 22 (Kd.int .u64))).sz = 1 from rfl, Nat.mul_one] at hf39_0); have HP39 := Kd.S_seg0 HH37.out od_ (by have h_ : (x50_3 : Int) < ((x7_3.length : Int) : Int) := od_; first | exact h_ | (have e_ := (HN37.out); omega) | simpa using h_) (seg := [.slice Ao41 t475.length co41]) (j := 0) (show 1 ≤ 1 from by decide) (x' := t475) (Kd.M_row HO477.out) (fun _ hk => hk); (try simp only [show ((Kd.slice 22 (Kd.int .u64))).sz = 1 from rfl, Nat.mul_one, Nat.add_zero] at HP39); clear hcc39 hfr39) | ((with_reducible refine gate_store (t := 33) (p := 60) rfl ?_); refine store_event (t := 33) (p := 60) (v := ?vo_w40) (w1 := (w38.setCell ⟨go37, (x50_3 : Int).toNat, none⟩ (.slice Ao41 t475.length co41))) ?hg ?ho ?hn ?hr ?_; (case ho => rfl); (case hg => rfl); (case hn => rfl); (case hr => first | (go_simp; done) | (go_simp; rfl)); intro w40 hw; have hg : w38.grownBy w40 (some go37) := (by rw [hw]; exact HP39.2); have hp_ : Kd.S (Kd.slice 22 (Kd.int .u64)) 33 w40 w.heap.size (fun _ => True) (.slice (some ⟨go37, 0, none⟩) x7_3.length co31) y478 := (by rw [hw, Ny478.out]; exact HP39.1); clear HP39; refine nx2_ ((by rw [hw]; exact below_set HB.out GB37.out : Below w.heap.size w w40)) (hp_) ?_; clear HB HO477 HH37; intro HB HO_7; clear hg hw hp_ hraw39))
          (try simp only [← hl7_3])
          go_roundg k3
          case measure => have := HJ3.out; have := HK2.out; have := HK3.out; omega
          case rel => exact ⟨(y478), (wrap64 (x50_3 + 1)), gb_, H', ⟨by have := HJ3.out; have := HK2.out; have := HK3.out; omega⟩, ⟨by (try simp only [hl7_3]); (with_reducible repeat (first | apply Kd.S_alloc | apply Kd.S_drewN | apply Kd.S_drew)); exact HO_7.out⟩, ⟨bU_ HB.out⟩⟩
         ·rw [if_neg c32] at H
          have c32b0 := decide_eq_false c32
          (try (have c32b0r0 := c32b0; simp only [hl7_3] at c32b0r0))
          clear c32
          obtain rfl := Option.some.inj H
          go_wp2
          go_ret
          exact ⟨_, by first | rfl | (simp [errW_none, errW_some] <;> rfl) | (simp [*, errW_none, errW_some] <;> rfl), by (with_reducible repeat (first | apply Kd.S_alloc | apply Kd.S_drewN | apply Kd.S_drew)); exact HO_7.out, bU_ HB.out⟩

/-! ### poly_Normal: function 64 -/
def poly_Normal.l0 : Nat → Int → List Int → Int → Int → Option (List Int)
 | 0, _, _, _, _ => none
 | k + 1, x0, x5, x17, x18 => if x18 < x17 then (if 0 ≤ x18 then (if x18 < (x5.length : Int) then ((field_Reduce.f x0 (rd x5 x18)).bind fun t486 => (poly_Normal.l0 k x0 (x5.set (x18 : Int).toNat t486) x17 (wrap64 (x18 + 1)))) else (none)) else (none)) else ((poly_trim.f k x5).bind fun t488 => (some t488))
def poly_Normal.f (k : Nat) (a0 : Int) (l1 : List Int) : Option (List Int) := (field_Valid.f a0).bind fun t479 => (if t479 = true then (if 0 ≤ (l1.length : Int) then (if ((l1.length : Int) : Int).toNat ≤ 35184372088832 then ((some (List.replicate ((l1.length : Int) : Int).toNat 0 : List Int)).bind fun y480 => (poly_Normal.l0 k a0 (cpyAt y480 0 l1) (y480.length : Int) 0)) else (none)) else (none)) else (some ([] : List Int)))
set_option maxHeartbeats 8000000 in
set_option maxRecDepth 100000 in
theorem poly_Normal.calls (k : Nat) (a0 : Int) (A1 : Option Addr) (c1 : Nat) (l1 : List Int) (r : List Int) (w : World) (hG : Fld w) (hr1 : Kd.C (Kd.int .u64) w A1 l1.length l1) (hc1 : l1.length ≤ c1) (h : poly_Normal.f k a0 l1 = some r) :
  Calls Tryd.prog 64 #[.int .i64 a0, .slice A1 l1.length c1] w fun e w' => ∃ v0_ : Value, e = .returned (v0_) ∧ Kd.R (Kd.int .u64) 22 w' w.heap.size (fun _ => True) v0_ r ∧ Below w.heap.size w w' := by
 have HG := ak hG
 clear hG
 have HR1 := ak hr1
 have HC1 := ak hc1
 clear hr1 hc1
 have HB := ak (Below.refl w.heap.size w)
 have H : ((field_Valid.f a0).bind fun t479 => (if t479 = true then (if 0 ≤ (l1.length : Int) then (if ((l1.length : Int) : Int).toNat ≤ 35184372088832 then ((some (List.replicate ((l1.length : Int) : Int).toNat 0 : List Int)).bind fun y480 => (poly_Normal.l0 k a0 (cpyAt y480 0 l1) (y480.length : Int) 0)) else (none)) else (none)) else (some ([] : List Int)))) = some r := h
 clear h
 revert H
 refine bd_ fun t479 A3 H => ?_
 by_cases c4 : t479 = true
 ·subst c4
  rw [if_pos rfl] at H
  obtain ⟨c5, H⟩ : (0 ≤ (l1.length : Int)) ∧ _ := it_ H
  have c5b0 := eq_true c5
  have c5b1 := decide_eq_true c5
  clear c5
  obtain ⟨c6, H⟩ : (((l1.length : Int) : Int).toNat ≤ 35184372088832) ∧ _ := it_ H
  have c6b0 := eq_true c6
  have c6b1 := decide_eq_true c6
  clear c6
  obtain ⟨y480, hy480⟩ : ∃ y_ : List Int, y_ = (List.replicate ((l1.length : Int) : Int).toNat 0) := ⟨_, rfl⟩
  first | rw [Option.bind_some, ← hy480] at H | rw [← hy480] at H
  have Ny480 := ak hy480
  clear hy480
  obtain ⟨y483, hy483⟩ : ∃ y_ : List Int, y_ = (cpyAt y480 0 l1) := ⟨_, rfl⟩
  first | rw [Option.bind_some, ← hy483] at H | rw [← hy483] at H
  have Ny483 := ak hy483
  clear hy483
  have H' := ak H
  clear H
  go_enter Tryd.func64, Tryd.ntmps64
  go_wp2_with (first | ((with_reducible refine gate_callee (f := 54) rfl ?_); refine gl_ (some 8) Tryd.func54 #[.int .i64 a0] ?_; (with_reducible refine (field_Valid.calls a0 true _ A3.out).mono ?_); rintro e w' ⟨rfl, ⟨nd, rfl⟩⟩; refine ⟨_, rfl, ?_⟩) | ((with_reducible refine gate_dst (N := 12) rfl ?_); refine Kd.R_make (Kd.int .u64) _ 22 rfl (N := 12) rfl 33 _ _ rfl (l1.length : Int) ?hx ?hy Tryd.underlying33 (.int .u64 0) 8 info22 rfl (by decide) (by omega) 0 (ok := fun _ => True) (okp := fun _ => True) rfl (fun _ hk => hk) trivial od_ (Nat.le_trans (Nat.mul_le_mul_right _ (od_ : (l1.length : Int).toNat ≤ 35184372088832)) (by omega)) (Below.refl _ _) (Nat.le_refl _) ?_; (case hx => first | rfl); (case hy => first | rfl); intro v481 w7 ho8 hb hg_ hnew_; clear hg_ hnew_; (first | rw [← Ny480.out] at ho8 | (simp only [Int.reduceToNat] at ho8; rw [← Ny480.out] at ho8)); refine nx2_ (Kd.R_lower ho8 (below_size (bU_ HB.out))) (below_step (bU_ HB.out) hb) ?_; clear HB; intro HO482 HB; clear hb ho8; obtain ⟨Ao10, co10, eo10⟩ := Kd.R_slice HO482.out; subst eo10) | ((with_reducible refine gate_builtin (b := .copy) (xs := #[.tmp 13, .tmp 14]) rfl ?_); skip; refine copy_own_ .u64 (w0 := w) w.heap.size rfl (.tmp 13) (.tmp 14) 33 33 22 rfl Tryd.underlying33 (show (Tryd.prog.info? 22).map (·.size) = some 1 by kernel_rfl) (.slice Ao10 y480.length co10) y480 l1 _ _ _ (fun _ => True) rfl rfl ?aO ?aR (fun _ _ h => h) ?aF ?aB ?aS ?_; (case aR => exact cU_ (Kd.C_below HR1.out HB.out)); (case aB => exact (bU_ HB.out)); (case aF => exact (fun _ _ => trivial)); (case aO => exact (rU_ HO482.out)); (case aS => exact (below_size (bU_ HB.out))); intro w9 ho hb hg hat; rw [← Ny483.out] at ho; refine nx2_ (hb) (ho) ?_; clear HB HO482; intro HB HO484; clear ho hb hg hat))
  go_loopg [18] k (fun kq v18 w' => ∃ (x5_1 : List Int) (x18_1 : Int), v18 = .int .i64 x18_1 ∧ Aside0 (poly_Normal.l0 kq a0 x5_1 (y480.length : Int) x18_1 = some r) ∧ Aside0 (kq ≤ k) ∧ Aside0 (Kd.R (Kd.int .u64) 22 w' w.heap.size (fun _ => True) (.slice Ao10 y480.length co10) x5_1) ∧ Aside0 (Below w.heap.size w w'))
  case atStart => exact ⟨(y483), (0), gb_, H', ⟨Nat.le_refl _⟩, ⟨rU_ HO484.out⟩, ⟨bU_ HB.out⟩⟩
  case round =>
   clear H'
   (try clear c1); (try clear p2); (try clear c4); (try clear c5); (try clear c5b0); (try clear c5b1); (try clear c6); (try clear c6b0); (try clear c6b1)
   obtain ⟨x5_1, x18_1, rfl, HA, HK1, HO_5, HB⟩ := hrel
   have hl5_1 := (Kd.R_reads' HO_5.out).1
   rw [hl5_1] at HO_5
   (try simp only [hl5_1])
   cases gk with
   | zero => exact absurd HA.out (by simp [poly_Normal.l0])
   | succ k1 =>
    have H := HA.out
    clear HA
    simp only [poly_Normal.l0] at H
    by_cases c11 : x18_1 < (y480.length : Int)
    ·rw [if_pos c11] at H
     have c11b0 := decide_eq_true c11
     (try (have c11b0r0 := c11b0; simp only [hl5_1] at c11b0r0))
     clear c11
     obtain ⟨c12, H⟩ : (0 ≤ x18_1) ∧ _ := it_ H
     have c12b0 := decide_eq_true c12
     clear c12
     obtain ⟨c13, H⟩ : (x18_1 < (x5_1.length : Int)) ∧ _ := it_ H
     have c13b0 := decide_eq_true c13
     clear c13
     revert H
     refine bd_ fun t486 A14 H => ?_
     obtain ⟨y487, hy487⟩ : ∃ y_ : List Int, y_ = (x5_1.set (x18_1 : Int).toNat t486) := ⟨_, rfl⟩
     first | rw [Option.bind_some, ← hy487] at H | rw [← hy487] at H
     have Ny487 := ak hy487
     clear hy487
     have H' := ak H
     clear H
     have pfr16 : 0 ≤ (x18_1 : Int) := od_
     have qfr16 : (x18_1 : Int) < ((x5_1.length : Int) : Int) := od_
     obtain ⟨gofr16, cofr16, eofr16, gbfr16, glfr16, clfr16, HGfr16⟩ := Kd.R_form HO_5.out (by omega)
     (first | cases eofr16 | (injection eofr16 with ea_ en_ ec_; (first | subst ea_ | (injection ea_ with ea_; subst ea_)); subst ec_; clear en_))
     have GBfr16 := ak gbfr16
     have GGfr16 := ak HGfr16
     clear gbfr16 glfr16 HGfr16
     clear pfr16 qfr16
     have p485 : 0 ≤ (x18_1 : Int) := od_
     have q485 : x18_1 < (x5_1.length : Int) := od_
     obtain ⟨ad485, e485, hx485_0⟩ := Kd.at_int (Kd.R_reads' HO_5.out).2.2 x18_1 p485 q485
     obtain rfl : (⟨gofr16, 0, none⟩ : Addr) = ad485 := (by injection e485)
     (first | simp only [add_plain] at hx485_0 | simp only [add_at] at hx485_0 | simp only [Addr.add, Nat.zero_add] at hx485_0 | skip)
     replace p485 := eq_true p485
     replace q485 := eq_true q485
     go_wp2_with (first | ((with_reducible refine gate_callee (f := 22) rfl ?_); refine gl_ (some 28) Tryd.func22 #[.int .i64 a0, .int .u64 (rd x5_1 x18_1)] ?_; (with_reducible refine (field_Reduce.calls a0 (rd x5_1 x18_1) t486 _ ?side1 A14.out).mono ?_); (case side1 => exact fU_ HG.out HB.out); rintro e w17 ⟨rfl, hb⟩; refine ⟨_, rfl, ?_⟩; refine nx2_ (Kd.R_below (rU_ HO_5.out) hb) (below_step (bU_ HB.out) hb) ?_; clear HO_5 HB; intro HO_5 HB; clear hb; have p15 : 0 ≤ (x18_1 : Int) := od_; have q15 : (x18_1 : Int) < ((x5_1.length : Int) : Int) := od_; obtain ⟨hx15_0, hf15_0⟩ := Kd.R_celln 0 HO_5.out (x18_1 : Int) p15 q15; replace p15 := eq_true p15; replace q15 := eq_true q15; obtain ⟨hy18_, hz18_⟩ := Kd.R_celln 0 HO_5.out (x18_1 : Int) od_ od_; have HP18 := Kd.R_putg HO_5.out (x18_1 : Int) t486) | ((with_reducible refine gate_store (t := 22) (p := 29) rfl ?_); refine store_event (t := 22) (p := 29) (v := ?vo_w19) (w1 := (w17.setCell ⟨gofr16, (x18_1 : Int).toNat, none⟩ (.int .u64 t486))) ?hg ?ho ?hn ?hr ?_; (case ho => rfl); (case hg => rfl); (case hn => rfl); (case hr => first | (go_simp; done) | (go_simp; rfl)); intro w19 hw; have hg : w17.grownBy w19 (some gofr16) := (by rw [hw]; exact HP18.2); have hp_ : Kd.R (Kd.int .u64) 22 w19 w.heap.size (fun _ => True) (.slice (some ⟨gofr16, 0, none⟩) x5_1.length co10) y487 := (by rw [hw, Ny487.out]; exact HP18.1); clear HP18; refine nx2_ (hp_) ((by rw [hw]; exact below_set (HB.out) GBfr16.out : Below w.heap.size w w19)) ?_; clear HO_5 HB; intro HO_5 HB; clear hg hw hp_))
     (try simp only [← hl5_1])
     go_roundg k1
     case measure => have := HK1.out; omega
     case rel => exact ⟨(y487), (wrap64 (x18_1 + 1)), gb_, H', ⟨by have := HK1.out; omega⟩, ⟨by (try simp only [hl5_1]); (with_reducible repeat (first | apply Kd.R_alloc | apply Kd.R_drewN | apply Kd.R_drew)); exact HO_5.out⟩, ⟨bU_ HB.out⟩⟩
    ·rw [if_neg c11] at H
     have c11b0 := decide_eq_false c11
     (try (have c11b0r0 := c11b0; simp only [hl5_1] at c11b0r0))
     clear c11
     revert H
     refine bd_ fun t488 A20 H => ?_
     obtain rfl := Option.some.inj H
     go_wp2_with (first | ((with_reducible refine gate_callee (f := 62) rfl ?_); refine gl_ (some 32) Tryd.func62 #[.slice Ao10 x5_1.length co10] ?_; (with_reducible refine (poly_trim.calls k1 (fun k_ => some k_ = (.slice Ao10 x5_1.length co10 : Value).ownBlock) (.slice Ao10 x5_1.length co10) x5_1 t488 w _ ?side1 ?side2 A20.out).mono ?_); (case side1 => repeat (first | (with_reducible first | exact HB.out | apply below_alloc | apply pw_below_drewN | apply below_drew1) | exact HB.out)); (case side2 => exact Kd.R_tight rfl HO_5.out); rintro e w21 ⟨v489, rfl, ho0, hb, hkp⟩; refine ⟨_, rfl, ?_⟩; refine nx2_ (Kd.R_mono (ok' := fun k_ => True) ho0 (fun k_ hk_ => trivial)) (hb) ?_; clear HB HO_5; intro HO490 HB; clear hb hkp ho0))
     go_ret
     exact ⟨_, by first | rfl | (simp [errW_none, errW_some] <;> rfl) | (simp [*, errW_none, errW_some] <;> rfl), rU_ HO490.out, bU_ HB.out⟩
 ·replace c4 := Bool.eq_false_iff.mpr c4
  subst c4
  rw [if_neg (show ¬ (false = true) by decide)] at H
  obtain rfl := Option.some.inj H
  go_enter Tryd.func64, Tryd.ntmps64
  go_wp2_with (first | ((with_reducible refine gate_callee (f := 54) rfl ?_); refine gl_ (some 8) Tryd.func54 #[.int .i64 a0] ?_; (with_reducible refine (field_Valid.calls a0 false _ A3.out).mono ?_); rintro e w' ⟨rfl, ⟨nd, rfl⟩⟩; refine ⟨_, rfl, ?_⟩))
  go_ret
  exact ⟨_, by first | rfl | (simp [errW_none, errW_some] <;> rfl) | (simp [*, errW_none, errW_some] <;> rfl), by first | exact Kd.R_nil _ _ _ _ _ | exact Kd.N_nil _ _ _ _ _ | exact Kd.V_nil _ _ _ _ _ | exact Kd.Q_nil _ _ _ _ _ | exact Kd.S_nil _ _ _ _ _, bU_ HB.out⟩

/-! ### poly_Add_yes: function 39 -/
def poly_Add_yes.l0 : Nat → Int → List Int → List Int → Int → Int → Option (List Int)
 | 0, _, _, _, _, _ => none
 | k + 1, x0, x7, x23, x24, x25 => if x25 < x24 then (if 0 ≤ x25 then (if x25 < (x23.length : Int) then (if x25 < (x7.length : Int) then ((field_Add.f x0 (rd x7 x25) (rd x23 x25)).bind fun t498 => (poly_Add_yes.l0 k x0 (x7.set (x25 : Int).toNat t498) x23 x24 (wrap64 (x25 + 1)))) else (none)) else (none)) else (none)) else ((poly_Normal.f k x0 x7).bind fun t500 => (some t500))
def poly_Add_yes.f (k : Nat) (a0 : Int) (l1 : List Int) (l2 : List Int) : Option (List Int) := if 0 ≤ (l2.length : Int) then (if ((l2.length : Int) : Int).toNat ≤ 35184372088832 then (poly_Add_yes.l0 k a0 (cpyAt (List.replicate ((l2.length : Int) : Int).toNat 0) 0 l2) l1 (l1.length : Int) 0) else (none)) else (none)
set_option maxHeartbeats 8000000 in
set_option maxRecDepth 100000 in
theorem poly_Add_yes.calls (k : Nat) (a0 : Int) (A1 : Option Addr) (c1 : Nat) (l1 : List Int) (A2 : Option Addr) (c2 : Nat) (l2 : List Int) (r : List Int) (w : World) (hX : (l1.length : Int) < (l2.length : Int)) (hG : Fld w) (hr1 : Kd.C (Kd.int .u64) w A1 l1.length l1) (hc1 : l1.length ≤ c1) (hr2 : Kd.C (Kd.int .u64) w A2 l2.length l2) (hc2 : l2.length ≤ c2) (h : poly_Add_yes.f k a0 l1 l2 = some r) :
  Calls Tryd.prog 39 #[.int .i64 a0, .slice A1 l1.length c1, .slice A2 l2.length c2] w fun e w' => ∃ v0_ : Value, e = .returned (v0_) ∧ Kd.R (Kd.int .u64) 22 w' w.heap.size (fun _ => True) v0_ r ∧ Below w.heap.size w w' := by
 have HG := ak hG
 clear hG
 have hXb0 : decide ((l1.length : Int) < (l2.length : Int)) = true := decide_eq_true hX
 have hXb1 : decide (l1.length < l2.length) = true := decide_eq_true (Int.ofNat_lt.mp hX)
 clear hX
 have HR1 := ak hr1
 have HC1 := ak hc1
 clear hr1 hc1
 have HR2 := ak hr2
 have HC2 := ak hc2
 clear hr2 hc2
 have HB := ak (Below.refl w.heap.size w)
 have H : (if 0 ≤ (l2.length : Int) then (if ((l2.length : Int) : Int).toNat ≤ 35184372088832 then (poly_Add_yes.l0 k a0 (cpyAt (List.replicate ((l2.length : Int) : Int).toNat 0) 0 l2) l1 (l1.length : Int) 0) else (none)) else (none)) = some r := h
 clear h
 obtain ⟨c4, H⟩ : (0 ≤ (l2.length : Int)) ∧ _ := it_ H
 have c4b0 := eq_true c4
 have c4b1 := decide_eq_true c4
 clear c4
 obtain ⟨c5, H⟩ : (((l2.length : Int) : Int).toNat ≤ 35184372088832) ∧ _ := it_ H
 have c5b0 := eq_true c5
 have c5b1 := decide_eq_true c5
 clear c5
 obtain ⟨y491, hy491⟩ : ∃ y_ : List Int, y_ = (List.replicate ((l2.length : Int) : Int).toNat 0) := ⟨_, rfl⟩
 first | rw [Option.bind_some, ← hy491] at H | rw [← hy491] at H
 have Ny491 := ak hy491
 clear hy491
 obtain ⟨y494, hy494⟩ : ∃ y_ : List Int, y_ = (cpyAt y491 0 l2) := ⟨_, rfl⟩
 first | rw [Option.bind_some, ← hy494] at H | rw [← hy494] at H
 have Ny494 := ak hy494
 clear hy494
 have H' := ak H
 clear H
 go_enter Tryd.func39, Tryd.ntmps39
 go_wp2_with (first | ((with_reducible refine gate_dst (N := 19) rfl ?_); refine Kd.R_make (Kd.int .u64) _ 22 rfl (N := 19) rfl 33 _ _ rfl (l2.length : Int) ?hx ?hy Tryd.underlying33 (.int .u64 0) 8 info22 rfl (by decide) (by omega) 0 (ok := fun _ => True) (okp := fun _ => True) rfl (fun _ hk => hk) trivial od_ (Nat.le_trans (Nat.mul_le_mul_right _ (od_ : (l2.length : Int).toNat ≤ 35184372088832)) (by omega)) (Below.refl _ _) (Nat.le_refl _) ?_; (case hx => first | rfl); (case hy => first | rfl); intro v492 w6 ho7 hb hg_ hnew_; clear hg_ hnew_; (first | rw [← Ny491.out] at ho7 | (simp only [Int.reduceToNat] at ho7; rw [← Ny491.out] at ho7)); refine nx2_ (Kd.R_lower ho7 (below_size (bU_ HB.out))) (below_step (bU_ HB.out) hb) ?_; clear HB; intro HO493 HB; clear hb ho7; obtain ⟨Ao9, co9, eo9⟩ := Kd.R_slice HO493.out; subst eo9) | ((with_reducible refine gate_builtin (b := .copy) (xs := #[.tmp 20, .tmp 21]) rfl ?_); skip; refine copy_own_ .u64 (w0 := w) w.heap.size rfl (.tmp 20) (.tmp 21) 33 33 22 rfl Tryd.underlying33 (show (Tryd.prog.info? 22).map (·.size) = some 1 by kernel_rfl) (.slice Ao9 y491.length co9) y491 l2 _ _ _ (fun _ => True) rfl rfl ?aO ?aR (fun _ _ h => h) ?aF ?aB ?aS ?_; (case aR => exact cU_ (Kd.C_below HR2.out HB.out)); (case aB => exact (bU_ HB.out)); (case aF => exact (fun _ _ => trivial)); (case aO => exact (rU_ HO493.out)); (case aS => exact (below_size (bU_ HB.out))); intro w8 ho hb hg hat; rw [← Ny494.out] at ho; refine nx2_ (hb) (ho) ?_; clear HB HO493; intro HB HO495; clear ho hb hg hat))
 go_loopg [25] k (fun kq v25 w' => ∃ (x7_1 : List Int) (x25_1 : Int), v25 = .int .i64 x25_1 ∧ Aside0 (poly_Add_yes.l0 kq a0 x7_1 l1 (l1.length : Int) x25_1 = some r) ∧ Aside0 (kq ≤ k) ∧ Aside0 (Kd.R (Kd.int .u64) 22 w' w.heap.size (fun _ => True) (.slice Ao9 y491.length co9) x7_1) ∧ Aside0 (Below w.heap.size w w'))
 case atStart => exact ⟨(y494), (0), gb_, H', ⟨Nat.le_refl _⟩, ⟨rU_ HO495.out⟩, ⟨bU_ HB.out⟩⟩
 case round =>
  clear H'
  (try clear c1); (try clear c2); (try clear p2); (try clear c3); (try clear c4); (try clear c4b0); (try clear c4b1); (try clear c5); (try clear c5b0); (try clear c5b1)
  obtain ⟨x7_1, x25_1, rfl, HA, HK1, HO_7, HB⟩ := hrel
  have hl7_1 := (Kd.R_reads' HO_7.out).1
  rw [hl7_1] at HO_7
  (try simp only [hl7_1])
  cases gk with
  | zero => exact absurd HA.out (by simp [poly_Add_yes.l0])
  | succ k1 =>
   have H := HA.out
   clear HA
   simp only [poly_Add_yes.l0] at H
   by_cases c10 : x25_1 < (l1.length : Int)
   ·rw [if_pos c10] at H
    have c10b0 := decide_eq_true c10
    clear c10
    obtain ⟨c11, H⟩ : (0 ≤ x25_1) ∧ _ := it_ H
    have c11b0 := decide_eq_true c11
    clear c11
    obtain ⟨c12, H⟩ : (x25_1 < (l1.length : Int)) ∧ _ := it_ H
    have c12b0 := decide_eq_true c12
    clear c12
    obtain ⟨c13, H⟩ : (x25_1 < (x7_1.length : Int)) ∧ _ := it_ H
    have c13b0 := decide_eq_true c13
    clear c13
    revert H
    refine bd_ fun t498 A14 H => ?_
    obtain ⟨y499, hy499⟩ : ∃ y_ : List Int, y_ = (x7_1.set (x25_1 : Int).toNat t498) := ⟨_, rfl⟩
    first | rw [Option.bind_some, ← hy499] at H | rw [← hy499] at H
    have Ny499 := ak hy499
    clear hy499
    have H' := ak H
    clear H
    have p496 : 0 ≤ (x25_1 : Int) := od_
    have q496 : x25_1 < (l1.length : Int) := od_
    obtain ⟨ad496, e496, hx496_0⟩ := Kd.at_int HR1.out x25_1 p496 q496
    cases e496
    replace hx496_0 := (HB.out.cell (World.block_lt_of_cell? w _ hx496_0)).trans hx496_0
    replace p496 := eq_true p496
    replace q496 := eq_true q496
    have pfr16 : 0 ≤ (x25_1 : Int) := od_
    have qfr16 : (x25_1 : Int) < ((x7_1.length : Int) : Int) := od_
    obtain ⟨gofr16, cofr16, eofr16, gbfr16, glfr16, clfr16, HGfr16⟩ := Kd.R_form HO_7.out (by omega)
    (first | cases eofr16 | (injection eofr16 with ea_ en_ ec_; (first | subst ea_ | (injection ea_ with ea_; subst ea_)); subst ec_; clear en_))
    have GBfr16 := ak gbfr16
    have GGfr16 := ak HGfr16
    clear gbfr16 glfr16 HGfr16
    clear pfr16 qfr16
    have p497 : 0 ≤ (x25_1 : Int) := od_
    have q497 : x25_1 < (x7_1.length : Int) := od_
    obtain ⟨ad497, e497, hx497_0⟩ := Kd.at_int (Kd.R_reads' HO_7.out).2.2 x25_1 p497 q497
    obtain rfl : (⟨gofr16, 0, none⟩ : Addr) = ad497 := (by injection e497)
    (first | simp only [add_plain] at hx497_0 | simp only [add_at] at hx497_0 | simp only [Addr.add, Nat.zero_add] at hx497_0 | skip)
    replace p497 := eq_true p497
    replace q497 := eq_true q497
    go_wp2_with (first | ((with_reducible refine gate_callee (f := 18) rfl ?_); refine gl_ (some 38) Tryd.func18 #[.int .i64 a0, .int .u64 (rd x7_1 x25_1), .int .u64 (rd l1 x25_1)] ?_; (with_reducible refine (field_Add.calls a0 (rd x7_1 x25_1) (rd l1 x25_1) t498 _ ?side1 A14.out).mono ?_); (case side1 => exact fU_ HG.out HB.out); rintro e w17 ⟨rfl, hb⟩; refine ⟨_, rfl, ?_⟩; refine nx2_ (Kd.R_below (rU_ HO_7.out) hb) (below_step (bU_ HB.out) hb) ?_; clear HO_7 HB; intro HO_7 HB; clear hb; have p15 : 0 ≤ (x25_1 : Int) := od_; have q15 : (x25_1 : Int) < ((x7_1.length : Int) : Int) := od_; obtain ⟨hx15_0, hf15_0⟩ := Kd.R_celln 0 HO_7.out (x25_1 : Int) p15 q15; replace p15 := eq_true p15; replace q15 := eq_true q15; obtain ⟨hy18_, hz18_⟩ := Kd.R_celln 0 HO_7.out (x25_1 : Int) od_ od_; have HP18 := Kd.R_putg HO_7.out (x25_1 : Int) t498) | ((with_reducible refine gate_store (t := 22) (p := 39) rfl ?_); refine store_event (t := 22) (p := 39) (v := ?vo_w19) (w1 := (w17.setCell ⟨gofr16, (x25_1 : Int).toNat, none⟩ (.int .u64 t498))) ?hg ?ho ?hn ?hr ?_; (case ho => rfl); (case hg => rfl); (case hn => rfl); (case hr => first | (go_simp; done) | (go_simp; rfl)); intro w19 hw; have hg : w17.grownBy w19 (some gofr16) := (by rw [hw]; exact HP18.2); have hp_ : Kd.R (Kd.int .u64) 22 w19 w.heap.size (fun _ => True) (.slice (some ⟨gofr16, 0, none⟩) x7_1.length co9) y499 := (by rw [hw, Ny499.out]; exact HP18.1); clear HP18; refine nx2_ (hp_) ((by rw [hw]; exact below_set (HB.out) GBfr16.out : Below w.heap.size w w19)) ?_; clear HO_7 HB; intro HO_7 HB; clear hg hw hp_))
    (try simp only [← hl7_1])
    go_roundg k1
    case measure => have := HK1.out; omega
    case rel => exact ⟨(y499), (wrap64 (x25_1 + 1)), gb_, H', ⟨by have := HK1.out; omega⟩, ⟨by (try simp only [hl7_1]); (with_reducible repeat (first | apply Kd.R_alloc | apply Kd.R_drewN | apply Kd.R_drew)); exact HO_7.out⟩, ⟨bU_ HB.out⟩⟩
   ·rw [if_neg c10] at H
    have c10b0 := decide_eq_false c10
    clear c10
    revert H
    refine bd_ fun t500 A20 H => ?_
    obtain rfl := Option.some.inj H
    go_wp2_with (first | ((with_reducible refine gate_callee (f := 64) rfl ?_); refine gl_ (some 43) Tryd.func64 #[.int .i64 a0, .slice Ao9 x7_1.length co9] ?_; (with_reducible refine (poly_Normal.calls k1 a0 _ _ x7_1 t500 _ ?side1 ?side2 ?side3 A20.out).mono ?_); (case side1 => exact fU_ HG.out HB.out); (case side2 => exact cU_ ((Kd.R_reads' HO_7.out).2.2)); (case side3 => exact (Kd.R_reads' HO_7.out).2.1); rintro e w21 ⟨v501, rfl, ho0, hb⟩; refine ⟨_, rfl, ?_⟩; refine nx3_ (Kd.R_elder' (rU_ HO_7.out) (Kd.R_base ho0) hb) (Kd.R_lower (Kd.R_new' ho0 (Kd.R_lt (rU_ HO_7.out))) (below_size (bU_ HB.out))) (below_step (bU_ HB.out) hb) ?_; clear HO_7 HB; intro HO_7 HO502 HB; clear hb ho0))
    go_ret
    exact ⟨_, by first | rfl | (simp [errW_none, errW_some] <;> rfl) | (simp [*, errW_none, errW_some] <;> rfl), Kd.R_mono (rU_ HO502.out) (fun _ hk => trivial), bU_ HB.out⟩

/-! ### poly_Add_no: function 39 -/
def poly_Add_no.l0 : Nat → Int → List Int → List Int → Int → Int → Option (List Int)
 | 0, _, _, _, _, _ => none
 | k + 1, x0, x7, x23, x24, x25 => if x25 < x24 then (if 0 ≤ x25 then (if x25 < (x23.length : Int) then (if x25 < (x7.length : Int) then ((field_Add.f x0 (rd x7 x25) (rd x23 x25)).bind fun t510 => (poly_Add_no.l0 k x0 (x7.set (x25 : Int).toNat t510) x23 x24 (wrap64 (x25 + 1)))) else (none)) else (none)) else (none)) else ((poly_Normal.f k x0 x7).bind fun t512 => (some t512))
def poly_Add_no.f (k : Nat) (a0 : Int) (l1 : List Int) (l2 : List Int) : Option (List Int) := if 0 ≤ (l1.length : Int) then (if ((l1.length : Int) : Int).toNat ≤ 35184372088832 then (poly_Add_no.l0 k a0 (cpyAt (List.replicate ((l1.length : Int) : Int).toNat 0) 0 l1) l2 (l2.length : Int) 0) else (none)) else (none)
set_option maxHeartbeats 8000000 in
set_option maxRecDepth 100000 in
theorem poly_Add_no.calls (k : Nat) (a0 : Int) (A1 : Option Addr) (c1 : Nat) (l1 : List Int) (A2 : Option Addr) (c2 : Nat) (l2 : List Int) (r : List Int) (w : World) (hX : ¬ ((l1.length : Int) < (l2.length : Int))) (hG : Fld w) (hr1 : Kd.C (Kd.int .u64) w A1 l1.length l1) (hc1 : l1.length ≤ c1) (hr2 : Kd.C (Kd.int .u64) w A2 l2.length l2) (hc2 : l2.length ≤ c2) (h : poly_Add_no.f k a0 l1 l2 = some r) :
  Calls Tryd.prog 39 #[.int .i64 a0, .slice A1 l1.length c1, .slice A2 l2.length c2] w fun e w' => ∃ v0_ : Value, e = .returned (v0_) ∧ Kd.R (Kd.int .u64) 22 w' w.heap.size (fun _ => True) v0_ r ∧ Below w.heap.size w w' := by
 have HG := ak hG
 clear hG
 have hXb0 : decide ((l1.length : Int) < (l2.length : Int)) = false := decide_eq_false hX
 have hXb1 : decide (l1.length < l2.length) = false := decide_eq_false (fun h => hX (Int.ofNat_lt.mpr h))
 clear hX
 have HR1 := ak hr1
 have HC1 := ak hc1
 clear hr1 hc1
 have HR2 := ak hr2
 have HC2 := ak hc2
 clear hr2 hc2
 have HB := ak (Below.refl w.heap.size w)
 have H : (if 0 ≤ (l1.length : Int) then (if ((l1.length : Int) : Int).toNat ≤ 35184372088832 then (poly_Add_no.l0 k a0 (cpyAt (List.replicate ((l1.length : Int) : Int).toNat 0) 0 l1) l2 (l2.length : Int) 0) else (none)) else (none)) = some r := h
 clear h
 obtain ⟨c4, H⟩ : (0 ≤ (l1.length : Int)) ∧ _ := it_ H
 have c4b0 := eq_true c4
 have c4b1 := decide_eq_true c4
 clear c4
 obtain ⟨c5, H⟩ : (((l1.length : Int) : Int).toNat ≤ 35184372088832) ∧ _ := it_ H
 have c5b0 := eq_true c5
 have c5b1 := decide_eq_true c5
 clear c5
 obtain ⟨y503, hy503⟩ : ∃ y_ : List Int, y_ = (List.replicate ((l1.length : Int) : Int).toNat 0) := ⟨_, rfl⟩
 first | rw [Option.bind_some, ← hy503] at H | rw [← hy503] at H
 have Ny503 := ak hy503
 clear hy503
 obtain ⟨y506, hy506⟩ : ∃ y_ : List Int, y_ = (cpyAt y503 0 l1) := ⟨_, rfl⟩
 first | rw [Option.bind_some, ← hy506] at H | rw [← hy506] at H
 have Ny506 := ak hy506
 clear hy506
 have H' := ak H
 clear H
 go_enter Tryd.func39, Tryd.ntmps39
 go_wp2_with (first | ((with_reducible refine gate_dst (N := 19) rfl ?_); refine Kd.R_make (Kd.int .u64) _ 22 rfl (N := 19) rfl 33 _ _ rfl (l1.length : Int) ?hx ?hy Tryd.underlying33 (.int .u64 0) 8 info22 rfl (by decide) (by omega) 0 (ok := fun _ => True) (okp := fun _ => True) rfl (fun _ hk => hk) trivial od_ (Nat.le_trans (Nat.mul_le_mul_right _ (od_ : (l1.length : Int).toNat ≤ 35184372088832)) (by omega)) (Below.refl _ _) (Nat.le_refl _) ?_; (case hx => first | rfl); (case hy => first | rfl); intro v504 w6 ho7 hb hg_ hnew_; clear hg_ hnew_; (first | rw [← Ny503.out] at ho7 | (simp only [Int.reduceToNat] at ho7; rw [← Ny503.out] at ho7)); refine nx2_ (Kd.R_lower ho7 (below_size (bU_ HB.out))) (below_step (bU_ HB.out) hb) ?_; clear HB; intro HO505 HB; clear hb ho7; obtain ⟨Ao9, co9, eo9⟩ := Kd.R_slice HO505.out; subst eo9) | ((with_reducible refine gate_builtin (b := .copy) (xs := #[.tmp 20, .tmp 21]) rfl ?_); skip; refine copy_own_ .u64 (w0 := w) w.heap.size rfl (.tmp 20) (.tmp 21) 33 33 22 rfl Tryd.underlying33 (show (Tryd.prog.info? 22).map (·.size) = some 1 by kernel_rfl) (.slice Ao9 y503.length co9) y503 l1 _ _ _ (fun _ => True) rfl rfl ?aO ?aR (fun _ _ h => h) ?aF ?aB ?aS ?_; (case aR => exact cU_ (Kd.C_below HR1.out HB.out)); (case aB => exact (bU_ HB.out)); (case aF => exact (fun _ _ => trivial)); (case aO => exact (rU_ HO505.out)); (case aS => exact (below_size (bU_ HB.out))); intro w8 ho hb hg hat; rw [← Ny506.out] at ho; refine nx2_ (hb) (ho) ?_; clear HB HO505; intro HB HO507; clear ho hb hg hat))
 go_loopg [25] k (fun kq v25 w' => ∃ (x7_1 : List Int) (x25_1 : Int), v25 = .int .i64 x25_1 ∧ Aside0 (poly_Add_no.l0 kq a0 x7_1 l2 (l2.length : Int) x25_1 = some r) ∧ Aside0 (kq ≤ k) ∧ Aside0 (Kd.R (Kd.int .u64) 22 w' w.heap.size (fun _ => True) (.slice Ao9 y503.length co9) x7_1) ∧ Aside0 (Below w.heap.size w w'))
 case atStart => exact ⟨(y506), (0), gb_, H', ⟨Nat.le_refl _⟩, ⟨rU_ HO507.out⟩, ⟨bU_ HB.out⟩⟩
 case round =>
  clear H'
  (try clear c1); (try clear c2); (try clear p2); (try clear c3); (try clear c4); (try clear c4b0); (try clear c4b1); (try clear c5); (try clear c5b0); (try clear c5b1)
  obtain ⟨x7_1, x25_1, rfl, HA, HK1, HO_7, HB⟩ := hrel
  have hl7_1 := (Kd.R_reads' HO_7.out).1
  rw [hl7_1] at HO_7
  (try simp only [hl7_1])
  cases gk with
  | zero => exact absurd HA.out (by simp [poly_Add_no.l0])
  | succ k1 =>
   have H := HA.out
   clear HA
   simp only [poly_Add_no.l0] at H
   by_cases c10 : x25_1 < (l2.length : Int)
   ·rw [if_pos c10] at H
    have c10b0 := decide_eq_true c10
    clear c10
    obtain ⟨c11, H⟩ : (0 ≤ x25_1) ∧ _ := it_ H
    have c11b0 := decide_eq_true c11
    clear c11
    obtain ⟨c12, H⟩ : (x25_1 < (l2.length : Int)) ∧ _ := it_ H
    have c12b0 := decide_eq_true c12
    clear c12
    obtain ⟨c13, H⟩ : (x25_1 < (x7_1.length : Int)) ∧ _ := it_ H
    have c13b0 := decide_eq_true c13
    clear c13
    revert H
    refine bd_ fun t510 A14 H => ?_
    obtain ⟨y511, hy511⟩ : ∃ y_ : List Int, y_ = (x7_1.set (x25_1 : Int).toNat t510) := ⟨_, rfl⟩
    first | rw [Option.bind_some, ← hy511] at H | rw [← hy511] at H
    have Ny511 := ak hy511
    clear hy511
    have H' := ak H
    clear H
    have p508 : 0 ≤ (x25_1 : Int) := od_
    have q508 : x25_1 < (l2.length : Int) := od_
    obtain ⟨ad508, e508, hx508_0⟩ := Kd.at_int HR2.out x25_1 p508 q508
    cases e508
    replace hx508_0 := (HB.out.cell (World.block_lt_of_cell? w _ hx508_0)).trans hx508_0
    replace p508 := eq_true p508
    replace q508 := eq_true q508
    have pfr16 : 0 ≤ (x25_1 : Int) := od_
    have qfr16 : (x25_1 : Int) < ((x7_1.length : Int) : Int) := od_
    obtain ⟨gofr16, cofr16, eofr16, gbfr16, glfr16, clfr16, HGfr16⟩ := Kd.R_form HO_7.out (by omega)
    (first | cases eofr16 | (injection eofr16 with ea_ en_ ec_; (first | subst ea_ | (injection ea_ with ea_; subst ea_)); subst ec_; clear en_))
    have GBfr16 := ak gbfr16
    have GGfr16 := ak HGfr16
    clear gbfr16 glfr16 HGfr16
    clear pfr16 qfr16
    have p509 : 0 ≤ (x25_1 : Int) := od_
    have q509 : x25_1 < (x7_1.length : Int) := od_
    obtain ⟨ad509, e509, hx509_0⟩ := Kd.at_int (Kd.R_reads' HO_7.out).2.2 x25_1 p509 q509
    obtain rfl : (⟨gofr16, 0, none⟩ : Addr) = ad509 := (by injection e509)
    (first | simp only [add_plain] at hx509_0 | simp only [add_at] at hx509_0 | simp only [Addr.add, Nat.zero_add] at hx509_0 | skip)
    replace p509 := eq_true p509
    replace q509 := eq_true q509
    go_wp2_with (first | ((with_reducible refine gate_callee (f := 18) rfl ?_); refine gl_ (some 38) Tryd.func18 #[.int .i64 a0, .int .u64 (rd x7_1 x25_1), .int .u64 (rd l2 x25_1)] ?_; (with_reducible refine (field_Add.calls a0 (rd x7_1 x25_1) (rd l2 x25_1) t510 _ ?side1 A14.out).mono ?_); (case side1 => exact fU_ HG.out HB.out); rintro e w17 ⟨rfl, hb⟩; refine ⟨_, rfl, ?_⟩; refine nx2_ (Kd.R_below (rU_ HO_7.out) hb) (below_step (bU_ HB.out) hb) ?_; clear HO_7 HB; intro HO_7 HB; clear hb; have p15 : 0 ≤ (x25_1 : Int) := od_; have q15 : (x25_1 : Int) < ((x7_1.length : Int) : Int) := od_; obtain ⟨hx15_0, hf15_0⟩ := Kd.R_celln 0 HO_7.out (x25_1 : Int) p15 q15; replace p15 := eq_true p15; replace q15 := eq_true q15; obtain ⟨hy18_, hz18_⟩ := Kd.R_celln 0 HO_7.out (x25_1 : Int) od_ od_; have HP18 := Kd.R_putg HO_7.out (x25_1 : Int) t510) | ((with_reducible refine gate_store (t := 22) (p := 39) rfl ?_); refine store_event (t := 22) (p := 39) (v := ?vo_w19) (w1 := (w17.setCell ⟨gofr16, (x25_1 : Int).toNat, none⟩ (.int .u64 t510))) ?hg ?ho ?hn ?hr ?_; (case ho => rfl); (case hg => rfl); (case hn => rfl); (case hr => first | (go_simp; done) | (go_simp; rfl)); intro w19 hw; have hg : w17.grownBy w19 (some gofr16) := (by rw [hw]; exact HP18.2); have hp_ : Kd.R (Kd.int .u64) 22 w19 w.heap.size (fun _ => True) (.slice (some ⟨gofr16, 0, none⟩) x7_1.length co9) y511 := (by rw [hw, Ny511.out]; exact HP18.1); clear HP18; refine nx2_ (hp_) ((by rw [hw]; exact below_set (HB.out) GBfr16.out : Below w.heap.size w w19)) ?_; clear HO_7 HB; intro HO_7 HB; clear hg hw hp_))
    (try simp only [← hl7_1])
    go_roundg k1
    case measure => have := HK1.out; omega
    case rel => exact ⟨(y511), (wrap64 (x25_1 + 1)), gb_, H', ⟨by have := HK1.out; omega⟩, ⟨by (try simp only [hl7_1]); (with_reducible repeat (first | apply Kd.R_alloc | apply Kd.R_drewN | apply Kd.R_drew)); exact HO_7.out⟩, ⟨bU_ HB.out⟩⟩
   ·rw [if_neg c10] at H
    have c10b0 := decide_eq_false c10
    clear c10
    revert H
    refine bd_ fun t512 A20 H => ?_
    obtain rfl := Option.some.inj H
    go_wp2_with (first | ((with_reducible refine gate_callee (f := 64) rfl ?_); refine gl_ (some 43) Tryd.func64 #[.int .i64 a0, .slice Ao9 x7_1.length co9] ?_; (with_reducible refine (poly_Normal.calls k1 a0 _ _ x7_1 t512 _ ?side1 ?side2 ?side3 A20.out).mono ?_); (case side1 => exact fU_ HG.out HB.out); (case side2 => exact cU_ ((Kd.R_reads' HO_7.out).2.2)); (case side3 => exact (Kd.R_reads' HO_7.out).2.1); rintro e w21 ⟨v513, rfl, ho0, hb⟩; refine ⟨_, rfl, ?_⟩; refine nx3_ (Kd.R_elder' (rU_ HO_7.out) (Kd.R_base ho0) hb) (Kd.R_lower (Kd.R_new' ho0 (Kd.R_lt (rU_ HO_7.out))) (below_size (bU_ HB.out))) (below_step (bU_ HB.out) hb) ?_; clear HO_7 HB; intro HO_7 HO514 HB; clear hb ho0))
    go_ret
    exact ⟨_, by first | rfl | (simp [errW_none, errW_some] <;> rfl) | (simp [*, errW_none, errW_some] <;> rfl), Kd.R_mono (rU_ HO514.out) (fun _ hk => trivial), bU_ HB.out⟩

/-! ### poly_Add: function 39 -/
def poly_Add.f (k : Nat) (a0 : Int) (l1 : List Int) (l2 : List Int) : Option (List Int) := if (l1.length : Int) < (l2.length : Int) then poly_Add_yes.f k a0 l1 l2 else poly_Add_no.f k a0 l1 l2
theorem poly_Add.calls (k : Nat) (a0 : Int) (A1 : Option Addr) (c1 : Nat) (l1 : List Int) (A2 : Option Addr) (c2 : Nat) (l2 : List Int) (r : List Int) (w : World) (hG : Fld w) (hr1 : Kd.C (Kd.int .u64) w A1 l1.length l1) (hc1 : l1.length ≤ c1) (hr2 : Kd.C (Kd.int .u64) w A2 l2.length l2) (hc2 : l2.length ≤ c2) (h : poly_Add.f k a0 l1 l2 = some r) :
  Calls Tryd.prog 39 #[.int .i64 a0, .slice A1 l1.length c1, .slice A2 l2.length c2] w fun e w' => ∃ v0_ : Value, e = .returned (v0_) ∧ Kd.R (Kd.int .u64) 22 w' w.heap.size (fun _ => True) v0_ r ∧ Below w.heap.size w w' := by
 unfold poly_Add.f at h
 by_cases hX : (l1.length : Int) < (l2.length : Int)
 ·rw [if_pos hX] at h
  exact poly_Add_yes.calls k a0 A1 c1 l1 A2 c2 l2 r w hX hG hr1 hc1 hr2 hc2 h
 ·rw [if_neg hX] at h
  exact poly_Add_no.calls k a0 A1 c1 l1 A2 c2 l2 r w hX hG hr1 hc1 hr2 hc2 h

/-! ### poly_Scale: function 40 -/
def poly_Scale.l0 : Nat → Int → Int → List Int → List Int → Int → Int → Option (List Int)
 | 0, _, _, _, _, _, _ => none
 | k + 1, x0, x2, x7, x13, x14, x15 => if x15 < x14 then (if 0 ≤ x15 then (if x15 < (x13.length : Int) then ((field_Mul.f x0 (rd x13 x15) x2).bind fun t519 => (if x15 < (x7.length : Int) then (poly_Scale.l0 k x0 x2 (x7.set (x15 : Int).toNat t519) x13 x14 (wrap64 (x15 + 1))) else (none))) else (none)) else (none)) else ((poly_trim.f k x7).bind fun t521 => (some t521))
def poly_Scale.f (k : Nat) (a0 : Int) (l1 : List Int) (a2 : Int) : Option (List Int) := if 0 ≤ (l1.length : Int) then (if ((l1.length : Int) : Int).toNat ≤ 35184372088832 then (poly_Scale.l0 k a0 a2 (List.replicate ((l1.length : Int) : Int).toNat 0) l1 (l1.length : Int) 0) else (none)) else (none)
set_option maxHeartbeats 8000000 in
set_option maxRecDepth 100000 in
theorem poly_Scale.calls (k : Nat) (a0 : Int) (A1 : Option Addr) (c1 : Nat) (l1 : List Int) (a2 : Int) (r : List Int) (w : World) (hG : Fld w) (hr1 : Kd.C (Kd.int .u64) w A1 l1.length l1) (hc1 : l1.length ≤ c1) (h : poly_Scale.f k a0 l1 a2 = some r) :
  Calls Tryd.prog 40 #[.int .i64 a0, .slice A1 l1.length c1, .int .u64 a2] w fun e w' => ∃ v0_ : Value, e = .returned (v0_) ∧ Kd.R (Kd.int .u64) 22 w' w.heap.size (fun _ => True) v0_ r ∧ Below w.heap.size w w' := by
 have HG := ak hG
 clear hG
 have HR1 := ak hr1
 have HC1 := ak hc1
 clear hr1 hc1
 have HB := ak (Below.refl w.heap.size w)
 have H : (if 0 ≤ (l1.length : Int) then (if ((l1.length : Int) : Int).toNat ≤ 35184372088832 then (poly_Scale.l0 k a0 a2 (List.replicate ((l1.length : Int) : Int).toNat 0) l1 (l1.length : Int) 0) else (none)) else (none)) = some r := h
 clear h
 obtain ⟨c4, H⟩ : (0 ≤ (l1.length : Int)) ∧ _ := it_ H
 have c4b0 := eq_true c4
 have c4b1 := decide_eq_true c4
 clear c4
 obtain ⟨c5, H⟩ : (((l1.length : Int) : Int).toNat ≤ 35184372088832) ∧ _ := it_ H
 have c5b0 := eq_true c5
 have c5b1 := decide_eq_true c5
 clear c5
 obtain ⟨y515, hy515⟩ : ∃ y_ : List Int, y_ = (List.replicate ((l1.length : Int) : Int).toNat 0) := ⟨_, rfl⟩
 first | rw [Option.bind_some, ← hy515] at H | rw [← hy515] at H
 have Ny515 := ak hy515
 clear hy515
 have H' := ak H
 clear H
 go_enter Tryd.func40, Tryd.ntmps40
 go_wp2_with (first | ((with_reducible refine gate_dst (N := 12) rfl ?_); refine Kd.R_make (Kd.int .u64) _ 22 rfl (N := 12) rfl 33 _ _ rfl (l1.length : Int) ?hx ?hy Tryd.underlying33 (.int .u64 0) 8 info22 rfl (by decide) (by omega) 0 (ok := fun _ => True) (okp := fun _ => True) rfl (fun _ hk => hk) trivial od_ (Nat.le_trans (Nat.mul_le_mul_right _ (od_ : (l1.length : Int).toNat ≤ 35184372088832)) (by omega)) (Below.refl _ _) (Nat.le_refl _) ?_; (case hx => first | rfl); (case hy => first | rfl); intro v516 w6 ho7 hb hg_ hnew_; clear hg_ hnew_; (first | rw [← Ny515.out] at ho7 | (simp only [Int.reduceToNat] at ho7; rw [← Ny515.out] at ho7)); refine nx2_ (Kd.R_lower ho7 (below_size (bU_ HB.out))) (below_step (bU_ HB.out) hb) ?_; clear HB; intro HO517 HB; clear hb ho7))
 go_loopg [15] k (fun kq v15 w' => ∃ (x7_1 : List Int) (x15_1 : Int), v15 = .int .i64 x15_1 ∧ Aside0 (poly_Scale.l0 kq a0 a2 x7_1 l1 (l1.length : Int) x15_1 = some r) ∧ Aside0 (kq ≤ k) ∧ Aside0 (Kd.R (Kd.int .u64) 22 w' w.heap.size (fun _ => True) v516 x7_1) ∧ Aside0 (Below w.heap.size w w'))
 case atStart => exact ⟨(y515), (0), gb_, H', ⟨Nat.le_refl _⟩, ⟨rU_ HO517.out⟩, ⟨bU_ HB.out⟩⟩
 case round =>
  clear H'
  (try clear c1); (try clear p2); (try clear c4); (try clear c4b0); (try clear c4b1); (try clear c5); (try clear c5b0); (try clear c5b1)
  obtain ⟨x7_1, x15_1, rfl, HA, HK1, HO_7, HB⟩ := hrel
  cases gk with
  | zero => exact absurd HA.out (by simp [poly_Scale.l0])
  | succ k1 =>
   have H := HA.out
   clear HA
   simp only [poly_Scale.l0] at H
   by_cases c8 : x15_1 < (l1.length : Int)
   ·rw [if_pos c8] at H
    have c8b0 := decide_eq_true c8
    clear c8
    obtain ⟨c9, H⟩ : (0 ≤ x15_1) ∧ _ := it_ H
    have c9b0 := decide_eq_true c9
    clear c9
    obtain ⟨c10, H⟩ : (x15_1 < (l1.length : Int)) ∧ _ := it_ H
    have c10b0 := decide_eq_true c10
    clear c10
    revert H
    refine bd_ fun t519 A11 H => ?_
    obtain ⟨c12, H⟩ : (x15_1 < (x7_1.length : Int)) ∧ _ := it_ H
    have c12b0 := decide_eq_true c12
    clear c12
    obtain ⟨y520, hy520⟩ : ∃ y_ : List Int, y_ = (x7_1.set (x15_1 : Int).toNat t519) := ⟨_, rfl⟩
    first | rw [Option.bind_some, ← hy520] at H | rw [← hy520] at H
    have Ny520 := ak hy520
    clear hy520
    have H' := ak H
    clear H
    have p518 : 0 ≤ (x15_1 : Int) := od_
    have q518 : x15_1 < (l1.length : Int) := od_
    obtain ⟨ad518, e518, hx518_0⟩ := Kd.at_int HR1.out x15_1 p518 q518
    cases e518
    replace hx518_0 := (HB.out.cell (World.block_lt_of_cell? w _ hx518_0)).trans hx518_0
    replace p518 := eq_true p518
    replace q518 := eq_true q518
    go_wp2_with (first | ((with_reducible refine gate_callee (f := 19) rfl ?_); refine gl_ (some 25) Tryd.func19 #[.int .i64 a0, .int .u64 (rd l1 x15_1), .int .u64 a2] ?_; (with_reducible refine (field_Mul.calls a0 (rd l1 x15_1) a2 t519 _ ?side1 A11.out).mono ?_); (case side1 => exact fU_ HG.out HB.out); rintro e w14 ⟨rfl, hb⟩; refine ⟨_, rfl, ?_⟩; refine nx2_ (Kd.R_below (rU_ HO_7.out) hb) (below_step (bU_ HB.out) hb) ?_; clear HO_7 HB; intro HO_7 HB; clear hb; have p13 : 0 ≤ (x15_1 : Int) := od_; have q13 : (x15_1 : Int) < ((x7_1.length : Int) : Int) := od_; obtain ⟨go13, co13, eo13, gb13, gl13, cl13, HG13⟩ := Kd.R_form HO_7.out (by omega); (first | cases eo13 | (injection eo13 with ea_ en_ ec_; (first | subst ea_ | (injection ea_ with ea_; subst ea_)); subst ec_; clear en_)); have GB13 := ak gb13; have GG13 := ak HG13; clear gb13 gl13 HG13; obtain ⟨hx13_0, hf13_0⟩ := Kd.R_celln 0 HO_7.out (x15_1 : Int) p13 q13; replace p13 := eq_true p13; replace q13 := eq_true q13; obtain ⟨hy15_, hz15_⟩ := Kd.R_celln 0 HO_7.out (x15_1 : Int) od_ od_; have HP15 := Kd.R_putg HO_7.out (x15_1 : Int) t519) | ((with_reducible refine gate_store (t := 22) (p := 26) rfl ?_); refine store_event (t := 22) (p := 26) (v := ?vo_w16) (w1 := (w14.setCell ⟨go13, (x15_1 : Int).toNat, none⟩ (.int .u64 t519))) ?hg ?ho ?hn ?hr ?_; (case ho => rfl); (case hg => rfl); (case hn => rfl); (case hr => first | (go_simp; done) | (go_simp; rfl)); intro w16 hw; have hg : w14.grownBy w16 (some go13) := (by rw [hw]; exact HP15.2); have hp_ : Kd.R (Kd.int .u64) 22 w16 w.heap.size (fun _ => True) (.slice (some ⟨go13, 0, none⟩) x7_1.length co13) y520 := (by rw [hw, Ny520.out]; exact HP15.1); clear HP15; refine nx2_ (hp_) ((by rw [hw]; exact below_set (HB.out) GB13.out : Below w.heap.size w w16)) ?_; clear HO_7 HB; intro HO_7 HB; clear hg hw hp_))
    go_roundg k1
    case measure => have := HK1.out; omega
    case rel => exact ⟨(y520), (wrap64 (x15_1 + 1)), gb_, H', ⟨by have := HK1.out; omega⟩, ⟨rU_ HO_7.out⟩, ⟨bU_ HB.out⟩⟩
   ·rw [if_neg c8] at H
    have c8b0 := decide_eq_false c8
    clear c8
    revert H
    refine bd_ fun t521 A17 H => ?_
    obtain rfl := Option.some.inj H
    obtain ⟨Ao18, co18, eo18⟩ := Kd.R_slice HO_7.out
    subst eo18
    go_wp2_with (first | ((with_reducible refine gate_callee (f := 62) rfl ?_); refine gl_ (some 29) Tryd.func62 #[.slice Ao18 x7_1.length co18] ?_; (with_reducible refine (poly_trim.calls k1 (fun k_ => some k_ = (.slice Ao18 x7_1.length co18 : Value).ownBlock) (.slice Ao18 x7_1.length co18) x7_1 t521 w _ ?side1 ?side2 A17.out).mono ?_); (case side1 => repeat (first | (with_reducible first | exact HB.out | apply below_alloc | apply pw_below_drewN | apply below_drew1) | exact HB.out)); (case side2 => exact Kd.R_tight rfl HO_7.out); rintro e w19 ⟨v522, rfl, ho0, hb, hkp⟩; refine ⟨_, rfl, ?_⟩; refine nx2_ (Kd.R_mono (ok' := fun k_ => True) ho0 (fun k_ hk_ => trivial)) (hb) ?_; clear HB HO_7; intro HO523 HB; clear hb hkp ho0))
    go_ret
    exact ⟨_, by first | rfl | (simp [errW_none, errW_some] <;> rfl) | (simp [*, errW_none, errW_some] <;> rfl), rU_ HO523.out, bU_ HB.out⟩

/-! ### poly_Degree: function 42 -/
def poly_Degree.l0 : Nat → Int → List Int → Int → Option (Int)
 | 0, _, _, _ => none
 | k + 1, x0, x1, x5 => if x5 > 0 then (if 0 ≤ (wrap64 (x5 - 1)) then (if (wrap64 (x5 - 1)) < (x1.length : Int) then ((field_Reduce.f x0 (rd x1 (wrap64 (x5 - 1)))).bind fun t525 => (if t525 = 0 then (poly_Degree.l0 k x0 x1 (wrap64 (x5 - 1))) else (some (wrap64 (x5 - 1))))) else (none)) else (none)) else (some (-1))
def poly_Degree.f (k : Nat) (a0 : Int) (l1 : List Int) : Option (Int) := poly_Degree.l0 k a0 l1 (l1.length : Int)
set_option maxHeartbeats 8000000 in
set_option maxRecDepth 100000 in
theorem poly_Degree.calls (k : Nat) (a0 : Int) (A1 : Option Addr) (c1 : Nat) (l1 : List Int) (r : Int) (w : World) (hG : Fld w) (hr1 : Kd.C (Kd.int .u64) w A1 l1.length l1) (hc1 : l1.length ≤ c1) (h : poly_Degree.f k a0 l1 = some r) :
  Calls Tryd.prog 42 #[.int .i64 a0, .slice A1 l1.length c1] w fun e w' => e = .returned (.int .i64 r) ∧ Below w.heap.size w w' := by
 have HG := ak hG
 clear hG
 have HR1 := ak hr1
 have HC1 := ak hc1
 clear hr1 hc1
 have HB := ak (Below.refl w.heap.size w)
 have H : (poly_Degree.l0 k a0 l1 (l1.length : Int)) = some r := h
 clear h
 have H' := ak H
 clear H
 go_enter Tryd.func42, Tryd.ntmps42
 go_wp2
 go_loopg [5] k (fun kq v5 w' => ∃ (x5_1 : Int), v5 = .int .i64 x5_1 ∧ Aside0 (poly_Degree.l0 kq a0 l1 x5_1 = some r) ∧ Aside0 (kq ≤ k) ∧ Aside0 (Below w.heap.size w w'))
 case atStart => exact ⟨((l1.length : Int)), gb_, H', ⟨Nat.le_refl _⟩, ⟨bU_ HB.out⟩⟩
 case round =>
  clear H'
  (try clear c1); (try clear p2)
  obtain ⟨x5_1, rfl, HA, HK1, HB⟩ := hrel
  cases gk with
  | zero => exact absurd HA.out (by simp [poly_Degree.l0])
  | succ k1 =>
   have H := HA.out
   clear HA
   simp only [poly_Degree.l0] at H
   by_cases c3 : x5_1 > 0
   ·rw [if_pos c3] at H
    have c3b0 : decide (0 < x5_1) = true := decide_eq_true c3
    clear c3
    obtain ⟨ji4, hji4⟩ : ∃ j_ : Int, (wrap64 (x5_1 - 1)) = j_ := ⟨_, rfl⟩
    first | rw [hji4] at H | simp only [hji4] at H
    have hji4w : (IntKind.i64.wrap (x5_1 - 1)) = ji4 := (i64_w _).trans hji4
    obtain ⟨c5, H⟩ : (0 ≤ (ji4)) ∧ _ := it_ H
    have c5b0 := decide_eq_true c5
    clear c5
    obtain ⟨c6, H⟩ : ((ji4) < (l1.length : Int)) ∧ _ := it_ H
    have c6b0 := decide_eq_true c6
    clear c6
    revert H
    refine bd_ fun t525 A7 H => ?_
    by_cases c8 : t525 = 0
    ·rw [if_pos c8] at H
     have c8b0 := beq_iff_eq.mpr c8
     have c8b1 := bne_eq_false_iff_eq.mpr c8
     clear c8
     have H' := ak H
     clear H
     have p524 : 0 ≤ ((ji4) : Int) := od_
     have q524 : (ji4) < (l1.length : Int) := od_
     obtain ⟨ad524, e524, hx524_0⟩ := Kd.at_int HR1.out (ji4) p524 q524
     cases e524
     replace hx524_0 := (HB.out.cell (World.block_lt_of_cell? w _ hx524_0)).trans hx524_0
     replace p524 := eq_true p524
     replace q524 := eq_true q524
     go_wp2_with (first | ((with_reducible refine gate_callee (f := 22) rfl ?_); refine goesL_ (some 18) rfl rfl Tryd.func22 (by kernel_rfl) rfl #[.int .i64 a0, .int .u64 (rd l1 (ji4))] rfl (by (try simp only [List.map_toArray, List.map_cons, List.map_nil]); first | done | (simp only [hji4]; rfl) | rfl | (simp only [List.length_drop, List.length_take]; rfl)) ?_; (with_reducible refine (field_Reduce.calls a0 (rd l1 (ji4)) t525 _ ?side1 A7.out).mono ?_); (case side1 => exact fU_ HG.out HB.out); rintro e w9 ⟨rfl, hb⟩; refine ⟨_, rfl, ?_⟩; refine nx1_ (below_step (bU_ HB.out) hb) ?_; clear HB; intro HB; clear hb))
     go_roundg k1
     case measure => have := HK1.out; omega
     case rel => exact ⟨(ji4), (by first | rfl | (simp; done) | (simp only [← hji4] <;> (first | rfl | simp)) | (simp [*]; done)), H', ⟨by have := HK1.out; omega⟩, ⟨bU_ HB.out⟩⟩
    ·rw [if_neg c8] at H
     have c8b0 := beq_eq_false_iff_ne.mpr c8
     have c8b1 := bne_iff_ne.mpr c8
     obtain rfl := Option.some.inj H
     have p524 : 0 ≤ ((ji4) : Int) := od_
     have q524 : (ji4) < (l1.length : Int) := od_
     obtain ⟨ad524, e524, hx524_0⟩ := Kd.at_int HR1.out (ji4) p524 q524
     cases e524
     replace hx524_0 := (HB.out.cell (World.block_lt_of_cell? w _ hx524_0)).trans hx524_0
     replace p524 := eq_true p524
     replace q524 := eq_true q524
     go_wp2_with (first | ((with_reducible refine gate_callee (f := 22) rfl ?_); refine goesL_ (some 18) rfl rfl Tryd.func22 (by kernel_rfl) rfl #[.int .i64 a0, .int .u64 (rd l1 (ji4))] rfl (by (try simp only [List.map_toArray, List.map_cons, List.map_nil]); first | done | (simp only [hji4]; rfl) | rfl | (simp only [List.length_drop, List.length_take]; rfl)) ?_; (with_reducible refine (field_Reduce.calls a0 (rd l1 (ji4)) t525 _ ?side1 A7.out).mono ?_); (case side1 => exact fU_ HG.out HB.out); rintro e w10 ⟨rfl, hb⟩; refine ⟨_, rfl, ?_⟩; refine nx1_ (below_step (bU_ HB.out) hb) ?_; clear HB; intro HB; clear hb))
     go_ret
     exact ⟨by first | rfl | (simp [errW_none, errW_some] <;> rfl) | (simp only [← hji4]; first | rfl | (simp [errW_none, errW_some] <;> rfl)) | (simp [*, errW_none, errW_some] <;> rfl), bU_ HB.out⟩
   ·rw [if_neg c3] at H
    have c3b0 : decide (0 < x5_1) = false := decide_eq_false c3
    clear c3
    obtain rfl := Option.some.inj H
    go_wp2
    go_ret
    exact ⟨by first | rfl | (simp [errW_none, errW_some] <;> rfl) | (simp [*, errW_none, errW_some] <;> rfl), bU_ HB.out⟩

/-! ### code_IsWord: function 43 -/
def code_IsWord.j0 : Nat → List Int → Int → Bool → Int → Int → Int → Option (Bool)
 | 0, _, _, _, _, _, _ => none
 | k + 1, x1, x2, x22, x527000, x527001, x527002 => if x22 = true then (some false) else ((transform_Coefficients.f k x527000 x527002 x1).bind fun bt528 => (if bt528.2 = 0 then ((poly_Degree.f k x527000 bt528.1).bind fun t532 => (some (decide (t532 < x2)))) else (some false)))
def code_IsWord.f (k : Nat) (a0_0 : Int) (a0_1 : Int) (a0_2 : Int) (l1 : List Int) (a2 : Int) : Option (Bool) := (code_isWord.f a0_0 a0_1 a0_2 l1).bind fun t527 => (if t527 = true then (if a2 < 0 then (code_IsWord.j0 k l1 a2 true a0_0 a0_1 a0_2) else (code_IsWord.j0 k l1 a2 (decide (a2 > (l1.length : Int))) a0_0 a0_1 a0_2)) else (code_IsWord.j0 k l1 a2 true a0_0 a0_1 a0_2))
set_option maxHeartbeats 8000000 in
set_option maxRecDepth 100000 in
theorem code_IsWord.calls (k : Nat) (a0_0 : Int) (a0_1 : Int) (a0_2 : Int) (A1 : Option Addr) (c1 : Nat) (l1 : List Int) (a2 : Int) (r : Bool) (w : World) (hG : Fld w) (hr1 : Kd.C (Kd.int .u64) w A1 l1.length l1) (hc1 : l1.length ≤ c1) (h : code_IsWord.f k a0_0 a0_1 a0_2 l1 a2 = some r) :
  Calls Tryd.prog 43 #[.agg #[.int .i64 a0_0, .int .i64 a0_1, .int .u64 a0_2], .slice A1 l1.length c1, .int .i64 a2] w fun e w' => e = .returned (.bool r) ∧ Below w.heap.size w w' := by
 have hu24 := Tryd.underlying24
 have HG := ak hG
 clear hG
 have HR1 := ak hr1
 have HC1 := ak hc1
 clear hr1 hc1
 have HB := ak (Below.refl w.heap.size w)
 have H : ((code_isWord.f a0_0 a0_1 a0_2 l1).bind fun t527 => (if t527 = true then (if a2 < 0 then (code_IsWord.j0 k l1 a2 true a0_0 a0_1 a0_2) else (code_IsWord.j0 k l1 a2 (decide (a2 > (l1.length : Int))) a0_0 a0_1 a0_2)) else (code_IsWord.j0 k l1 a2 true a0_0 a0_1 a0_2))) = some r := h
 clear h
 have HC4 := ak H
 clear H
 go_enter Tryd.func43, Tryd.ntmps43
 go_upto_region 1 with (first | ((with_reducible refine gate_dst (N := 3) rfl ?_); (try (refine gate_guard (by rfl) ?_; dsimp only)); refine box_event ?hg (N := 3) ?hd (cs := #[.int .i64 a0_0, .int .i64 a0_1, .int .u64 a0_2]) (t := 24) ?hr ?_; (case hd => rfl); (case hg => rfl); (case hr => first | (go_simp; done) | (go_simp; rfl)); intro gb526 hg w5 hbox hb; refine nx4_ (below_step (bU_ HB.out) hb) (hbox) ((by rw [hg]; exact (below_size (bU_ HB.out)) : w.heap.size ≤ gb526)) ((by rw [hg]; exact (below_size (bU_ HB.out)) : w.heap.size ≤ gb526)) ?_; clear HB; intro HB BK526 GW526 GE526; clear hb hbox hg))
 (try simp only [Act.put, s1_, s2_, s3_])
 go_cut [22] (fun v22 wc => ∃ (kq : Nat) (x22_3 : Bool), v22 = .bool x22_3 ∧ Aside0 (code_IsWord.j0 kq l1 a2 x22_3 a0_0 a0_1 a0_2 = some r) ∧ Aside0 (kq ≤ k) ∧ Aside0 (wc.heap[gb526]? = some (.cells #[.int .i64 a0_0, .int .i64 a0_1, .int .u64 a0_2] 24 (0, 0))) ∧ Aside0 (Below w.heap.size w wc))
 case first =>
  have H := HC4.out
  clear HC4
  revert H
  refine bd_ fun t527 A6 H => ?_
  by_cases c7 : t527 = true
  ·subst c7
   rw [if_pos rfl] at H
   by_cases c8 : a2 < 0
   ·rw [if_pos c8] at H
    have c8b0 := decide_eq_true c8
    clear c8
    (first | rw [c8b0] | (simp only [i64_w, i32_w]; rw [c8b0]) | rw [c8b1] | skip)
    have H' := ak H
    clear H
    have hcz9_0 : w5.cell? ⟨gb526, 0, none⟩ = some (.int .i64 a0_0) := (blk_cell BK526.out 0).trans rfl
    have hcz9_1 : w5.cell? ⟨gb526, 1, none⟩ = some (.int .i64 a0_1) := (blk_cell BK526.out 1).trans rfl
    have hcz9_2 : w5.cell? ⟨gb526, 2, none⟩ = some (.int .u64 a0_2) := (blk_cell BK526.out 2).trans rfl
    have hfz9_0 := blk_frozen BK526.out 0
    have hfz9_1 := blk_frozen BK526.out 1
    have hfz9_2 := blk_frozen BK526.out 2
    go_wp2_with (first | ((with_reducible refine gate_callee (f := 55) rfl ?_); refine gl_ (some 11) Tryd.func55 #[.agg #[.int .i64 a0_0, .int .i64 a0_1, .int .u64 a0_2], .slice A1 l1.length c1] ?_; (with_reducible refine (code_isWord.calls a0_0 a0_1 a0_2 _ _ l1 true _ ?side1 ?side2 ?side3 A6.out).mono ?_); (case side1 => repeat (first | with_reducible exact HG.out | with_reducible exact (Fld.below HG.out HB.out) | exact (Fld.below HG.out (by repeat (first | (with_reducible first | exact HB.out | apply below_alloc | apply pw_below_drewN | apply below_drew1 | refine below_set ?_ GE526.out) | exact HB.out))) | (with_reducible refine Fld.alloc ?_ _) | (with_reducible refine Fld.drewN ?_ _) | (with_reducible refine Fld.drew ?_))); (case side2 => exact cU_ (Kd.C_below HR1.out HB.out)); (case side3 => exact HC1.out); rintro e w10 ⟨rfl, hb⟩; refine ⟨_, rfl, ?_⟩; refine nx2_ (blk_below (g := gb526) (o := .cells #[.int .i64 a0_0, .int .i64 a0_1, .int .u64 a0_2] 24 (0, 0)) (by (with_reducible repeat (first | refine blk_drewN ?_ _ | refine blk_drew ?_ | refine blk_alloc ?_ _)); exact BK526.out) hb) (below_step (by repeat (first | (with_reducible first | exact HB.out | apply below_alloc | apply pw_below_drewN | apply below_drew1 | refine below_set ?_ GE526.out) | exact HB.out)) hb) ?_; clear BK526 HB; intro BK526 HB; clear hb))
    go_meet
    case rel => exact ⟨_, (true), gb_, H', ⟨by first | omega | exact Nat.le_refl _⟩, ⟨by (with_reducible repeat (first | refine blk_drewN ?_ _ | refine blk_drew ?_ | refine blk_alloc ?_ _)); exact BK526.out⟩, ⟨by repeat (first | (with_reducible first | exact HB.out | apply below_alloc | apply pw_below_drewN | apply below_drew1 | refine below_set ?_ GE526.out) | exact HB.out)⟩⟩
   ·rw [if_neg c8] at H
    have c8b0 := decide_eq_false c8
    clear c8
    (first | rw [c8b0] | (simp only [i64_w, i32_w]; rw [c8b0]) | rw [c8b1] | skip)
    have H' := ak H
    clear H
    have hcz11_0 : w5.cell? ⟨gb526, 0, none⟩ = some (.int .i64 a0_0) := (blk_cell BK526.out 0).trans rfl
    have hcz11_1 : w5.cell? ⟨gb526, 1, none⟩ = some (.int .i64 a0_1) := (blk_cell BK526.out 1).trans rfl
    have hcz11_2 : w5.cell? ⟨gb526, 2, none⟩ = some (.int .u64 a0_2) := (blk_cell BK526.out 2).trans rfl
    have hfz11_0 := blk_frozen BK526.out 0
    have hfz11_1 := blk_frozen BK526.out 1
    have hfz11_2 := blk_frozen BK526.out 2
    go_wp2_with (first | ((with_reducible refine gate_callee (f := 55) rfl ?_); refine gl_ (some 11) Tryd.func55 #[.agg #[.int .i64 a0_0, .int .i64 a0_1, .int .u64 a0_2], .slice A1 l1.length c1] ?_; (with_reducible refine (code_isWord.calls a0_0 a0_1 a0_2 _ _ l1 true _ ?side1 ?side2 ?side3 A6.out).mono ?_); (case side1 => repeat (first | with_reducible exact HG.out | with_reducible exact (Fld.below HG.out HB.out) | exact (Fld.below HG.out (by repeat (first | (with_reducible first | exact HB.out | apply below_alloc | apply pw_below_drewN | apply below_drew1 | refine below_set ?_ GE526.out) | exact HB.out))) | (with_reducible refine Fld.alloc ?_ _) | (with_reducible refine Fld.drewN ?_ _) | (with_reducible refine Fld.drew ?_))); (case side2 => exact cU_ (Kd.C_below HR1.out HB.out)); (case side3 => exact HC1.out); rintro e w12 ⟨rfl, hb⟩; refine ⟨_, rfl, ?_⟩; refine nx2_ (blk_below (g := gb526) (o := .cells #[.int .i64 a0_0, .int .i64 a0_1, .int .u64 a0_2] 24 (0, 0)) (by (with_reducible repeat (first | refine blk_drewN ?_ _ | refine blk_drew ?_ | refine blk_alloc ?_ _)); exact BK526.out) hb) (below_step (by repeat (first | (with_reducible first | exact HB.out | apply below_alloc | apply pw_below_drewN | apply below_drew1 | refine below_set ?_ GE526.out) | exact HB.out)) hb) ?_; clear BK526 HB; intro BK526 HB; clear hb))
    go_meet
    case rel => exact ⟨_, (decide (a2 > (l1.length : Int))), gb_, H', ⟨by first | omega | exact Nat.le_refl _⟩, ⟨by (with_reducible repeat (first | refine blk_drewN ?_ _ | refine blk_drew ?_ | refine blk_alloc ?_ _)); exact BK526.out⟩, ⟨by repeat (first | (with_reducible first | exact HB.out | apply below_alloc | apply pw_below_drewN | apply below_drew1 | refine below_set ?_ GE526.out) | exact HB.out)⟩⟩
  ·replace c7 := Bool.eq_false_iff.mpr c7
   subst c7
   rw [if_neg (show ¬ (false = true) by decide)] at H
   have H' := ak H
   clear H
   have hcz13_0 : w5.cell? ⟨gb526, 0, none⟩ = some (.int .i64 a0_0) := (blk_cell BK526.out 0).trans rfl
   have hcz13_1 : w5.cell? ⟨gb526, 1, none⟩ = some (.int .i64 a0_1) := (blk_cell BK526.out 1).trans rfl
   have hcz13_2 : w5.cell? ⟨gb526, 2, none⟩ = some (.int .u64 a0_2) := (blk_cell BK526.out 2).trans rfl
   have hfz13_0 := blk_frozen BK526.out 0
   have hfz13_1 := blk_frozen BK526.out 1
   have hfz13_2 := blk_frozen BK526.out 2
   go_wp2_with (first | ((with_reducible refine gate_callee (f := 55) rfl ?_); refine gl_ (some 11) Tryd.func55 #[.agg #[.int .i64 a0_0, .int .i64 a0_1, .int .u64 a0_2], .slice A1 l1.length c1] ?_; (with_reducible refine (code_isWord.calls a0_0 a0_1 a0_2 _ _ l1 false _ ?side1 ?side2 ?side3 A6.out).mono ?_); (case side1 => repeat (first | with_reducible exact HG.out | with_reducible exact (Fld.below HG.out HB.out) | exact (Fld.below HG.out (by repeat (first | (with_reducible first | exact HB.out | apply below_alloc | apply pw_below_drewN | apply below_drew1 | refine below_set ?_ GE526.out) | exact HB.out))) | (with_reducible refine Fld.alloc ?_ _) | (with_reducible refine Fld.drewN ?_ _) | (with_reducible refine Fld.drew ?_))); (case side2 => exact cU_ (Kd.C_below HR1.out HB.out)); (case side3 => exact HC1.out); rintro e w14 ⟨rfl, hb⟩; refine ⟨_, rfl, ?_⟩; refine nx2_ (blk_below (g := gb526) (o := .cells #[.int .i64 a0_0, .int .i64 a0_1, .int .u64 a0_2] 24 (0, 0)) (by (with_reducible repeat (first | refine blk_drewN ?_ _ | refine blk_drew ?_ | refine blk_alloc ?_ _)); exact BK526.out) hb) (below_step (by repeat (first | (with_reducible first | exact HB.out | apply below_alloc | apply pw_below_drewN | apply below_drew1 | refine below_set ?_ GE526.out) | exact HB.out)) hb) ?_; clear BK526 HB; intro BK526 HB; clear hb))
   go_meet
   case rel => exact ⟨_, (true), gb_, H', ⟨by first | omega | exact Nat.le_refl _⟩, ⟨by (with_reducible repeat (first | refine blk_drewN ?_ _ | refine blk_drew ?_ | refine blk_alloc ?_ _)); exact BK526.out⟩, ⟨by repeat (first | (with_reducible first | exact HB.out | apply below_alloc | apply pw_below_drewN | apply below_drew1 | refine below_set ?_ GE526.out) | exact HB.out)⟩⟩
 case rest =>
  clear HC4
  (try clear c1); (try clear p2); (try clear c4); (try clear c5); (try clear c7); (try clear c8); (try clear c8b0); (try clear c8b1); (try clear hcz11_0); (try clear hcz11_1); (try clear hcz11_2); (try clear hcz13_0); (try clear hcz13_1); (try clear hcz13_2); (try clear hcz9_0); (try clear hcz9_1); (try clear hcz9_2); (try clear hfz11_0); (try clear hfz11_1); (try clear hfz11_2); (try clear hfz13_0); (try clear hfz13_1); (try clear hfz13_2); (try clear hfz9_0); (try clear hfz9_1); (try clear hfz9_2)
  obtain ⟨kq, x22_3, rfl, HA, HJ3, BK526, HB⟩ := hcut
  cases kq with
  | zero => exact absurd HA.out (by simp [code_IsWord.j0])
  | succ kj3 =>
   have H := HA.out
   clear HA
   simp only [code_IsWord.j0] at H
   by_cases c15 : x22_3 = true
   ·subst c15
    rw [if_pos rfl] at H
    obtain rfl := Option.some.inj H
    go_wp2
    go_ret
    exact ⟨by first | rfl | (simp [errW_none, errW_some] <;> rfl) | (simp [*, errW_none, errW_some] <;> rfl), by repeat (first | (with_reducible first | exact HB.out | apply below_alloc | apply pw_below_drewN | apply below_drew1 | refine below_set ?_ GE526.out) | exact HB.out)⟩
   ·replace c15 := Bool.eq_false_iff.mpr c15
    subst c15
    rw [if_neg (show ¬ (false = true) by decide)] at H
    revert H
    refine bd2_ fun t528 t529 A16 H => ?_
    try dsimp only at H
    by_cases c17 : t529 = 0
    ·rw [if_pos c17] at H
     have c17b0 := beq_iff_eq.mpr c17
     have c17b1 := bne_eq_false_iff_eq.mpr c17
     clear c17
     revert H
     refine bd_ fun t532 A18 H => ?_
     obtain rfl := Option.some.inj H
     have hcz19_0 : wc.cell? ⟨gb526, 0, none⟩ = some (.int .i64 a0_0) := (blk_cell BK526.out 0).trans rfl
     have hcz19_1 : wc.cell? ⟨gb526, 1, none⟩ = some (.int .i64 a0_1) := (blk_cell BK526.out 1).trans rfl
     have hcz19_2 : wc.cell? ⟨gb526, 2, none⟩ = some (.int .u64 a0_2) := (blk_cell BK526.out 2).trans rfl
     have hfz19_0 := blk_frozen BK526.out 0
     have hfz19_1 := blk_frozen BK526.out 1
     have hfz19_2 := blk_frozen BK526.out 2
     go_wp2_with (first | ((with_reducible refine gate_callee (f := 65) rfl ?_); refine gl_ (some 29) Tryd.func65 #[.int .i64 a0_0, .int .u64 a0_2, .slice A1 l1.length c1] ?_; (with_reducible refine (transform_Coefficients.calls kj3 a0_0 a0_2 _ _ l1 t528 t529 _ ?side1 ?side2 ?side3 A16.out).mono ?_); (case side1 => repeat (first | with_reducible exact HG.out | with_reducible exact (Fld.below HG.out HB.out) | exact (Fld.below HG.out (by repeat (first | (with_reducible first | exact HB.out | apply below_alloc | apply pw_below_drewN | apply below_drew1 | refine below_set ?_ GE526.out) | exact HB.out))) | (with_reducible refine Fld.alloc ?_ _) | (with_reducible refine Fld.drewN ?_ _) | (with_reducible refine Fld.drew ?_))); (case side2 => exact cU_ (Kd.C_below HR1.out HB.out)); (case side3 => exact HC1.out); rintro e w20 ⟨v530, rfl, ho0, hb⟩; refine ⟨_, rfl, ?_⟩; refine nx3_ (Kd.R_lower ho0 (below_size (by repeat (first | (with_reducible first | exact HB.out | apply below_alloc | apply pw_below_drewN | apply below_drew1 | refine below_set ?_ GE526.out) | exact HB.out)))) (blk_below (g := gb526) (o := .cells #[.int .i64 a0_0, .int .i64 a0_1, .int .u64 a0_2] 24 (0, 0)) (by (with_reducible repeat (first | refine blk_drewN ?_ _ | refine blk_drew ?_ | refine blk_alloc ?_ _)); exact BK526.out) hb) (below_step (by repeat (first | (with_reducible first | exact HB.out | apply below_alloc | apply pw_below_drewN | apply below_drew1 | refine below_set ?_ GE526.out) | exact HB.out)) hb) ?_; clear BK526 HB; intro HO531 BK526 HB; clear hb ho0; have hcz21_0 : w20.cell? ⟨gb526, 0, none⟩ = some (.int .i64 a0_0) := (blk_cell BK526.out 0).trans rfl; have hcz21_1 : w20.cell? ⟨gb526, 1, none⟩ = some (.int .i64 a0_1) := (blk_cell BK526.out 1).trans rfl; have hcz21_2 : w20.cell? ⟨gb526, 2, none⟩ = some (.int .u64 a0_2) := (blk_cell BK526.out 2).trans rfl; have hfz21_0 := blk_frozen BK526.out 0; have hfz21_1 := blk_frozen BK526.out 1; have hfz21_2 := blk_frozen BK526.out 2; obtain ⟨Ao22, co22, eo22⟩ := Kd.R_slice HO531.out; subst eo22) | (go_at_call 42; (with_reducible refine (poly_Degree.calls kj3 a0_0 _ _ t528 t532 _ ?side1 ?side2 ?side3 A18.out).mono ?_); (case side1 => repeat (first | with_reducible exact HG.out | with_reducible exact (Fld.below HG.out HB.out) | exact (Fld.below HG.out (by repeat (first | (with_reducible first | exact HB.out | apply below_alloc | apply pw_below_drewN | apply below_drew1 | refine below_set ?_ GE526.out) | exact HB.out))) | (with_reducible refine Fld.alloc ?_ _) | (with_reducible refine Fld.drewN ?_ _) | (with_reducible refine Fld.drew ?_))); (case side2 => exact cU_ ((Kd.R_reads' HO531.out).2.2)); (case side3 => exact (Kd.R_reads' HO531.out).2.1); rintro e w23 ⟨rfl, hb⟩; refine nx3_ (Kd.R_below (rU_ HO531.out) hb) (blk_below (g := gb526) (o := .cells #[.int .i64 a0_0, .int .i64 a0_1, .int .u64 a0_2] 24 (0, 0)) (by (with_reducible repeat (first | refine blk_drewN ?_ _ | refine blk_drew ?_ | refine blk_alloc ?_ _)); exact BK526.out) hb) (below_step (by repeat (first | (with_reducible first | exact HB.out | apply below_alloc | apply pw_below_drewN | apply below_drew1 | refine below_set ?_ GE526.out) | exact HB.out)) hb) ?_; clear HO531 BK526 HB; intro HO531 BK526 HB; clear hb))
     go_ret
     exact ⟨by first | rfl | (simp [errW_none, errW_some] <;> rfl) | (simp [*, errW_none, errW_some] <;> rfl), by repeat (first | (with_reducible first | exact HB.out | apply below_alloc | apply pw_below_drewN | apply below_drew1 | refine below_set ?_ GE526.out) | exact HB.out)⟩
    ·rw [if_neg c17] at H
     have c17b0 := beq_eq_false_iff_ne.mpr c17
     have c17b1 := bne_iff_ne.mpr c17
     obtain rfl := Option.some.inj H
     have hcz24_0 : wc.cell? ⟨gb526, 0, none⟩ = some (.int .i64 a0_0) := (blk_cell BK526.out 0).trans rfl
     have hcz24_1 : wc.cell? ⟨gb526, 1, none⟩ = some (.int .i64 a0_1) := (blk_cell BK526.out 1).trans rfl
     have hcz24_2 : wc.cell? ⟨gb526, 2, none⟩ = some (.int .u64 a0_2) := (blk_cell BK526.out 2).trans rfl
     have hfz24_0 := blk_frozen BK526.out 0
     have hfz24_1 := blk_frozen BK526.out 1
     have hfz24_2 := blk_frozen BK526.out 2
     go_wp2_with (first | ((with_reducible refine gate_callee (f := 65) rfl ?_); refine gl_ (some 29) Tryd.func65 #[.int .i64 a0_0, .int .u64 a0_2, .slice A1 l1.length c1] ?_; (with_reducible refine (transform_Coefficients.calls kj3 a0_0 a0_2 _ _ l1 t528 t529 _ ?side1 ?side2 ?side3 A16.out).mono ?_); (case side1 => repeat (first | with_reducible exact HG.out | with_reducible exact (Fld.below HG.out HB.out) | exact (Fld.below HG.out (by repeat (first | (with_reducible first | exact HB.out | apply below_alloc | apply pw_below_drewN | apply below_drew1 | refine below_set ?_ GE526.out) | exact HB.out))) | (with_reducible refine Fld.alloc ?_ _) | (with_reducible refine Fld.drewN ?_ _) | (with_reducible refine Fld.drew ?_))); (case side2 => exact cU_ (Kd.C_below HR1.out HB.out)); (case side3 => exact HC1.out); rintro e w25 ⟨v530, rfl, ho0, hb⟩; refine ⟨_, rfl, ?_⟩; refine nx3_ (Kd.R_lower ho0 (below_size (by repeat (first | (with_reducible first | exact HB.out | apply below_alloc | apply pw_below_drewN | apply below_drew1 | refine below_set ?_ GE526.out) | exact HB.out)))) (blk_below (g := gb526) (o := .cells #[.int .i64 a0_0, .int .i64 a0_1, .int .u64 a0_2] 24 (0, 0)) (by (with_reducible repeat (first | refine blk_drewN ?_ _ | refine blk_drew ?_ | refine blk_alloc ?_ _)); exact BK526.out) hb) (below_step (by repeat (first | (with_reducible first | exact HB.out | apply below_alloc | apply pw_below_drewN | apply below_drew1 | refine below_set ?_ GE526.out) | exact HB.out)) hb) ?_; clear BK526 HB; intro HO531 BK526 HB; clear hb ho0))
     go_ret
     exact ⟨by first | rfl | (simp [errW_none, errW_some] <;> rfl) | (simp [*, errW_none, errW_some] <;> rfl), by repeat (first | (with_reducible first | exact HB.out | apply below_alloc | apply pw_below_drewN | apply below_drew1 | refine below_set ?_ GE526.out) | exact HB.out)⟩

/-! ### attestorlaw09_FoldPolys: function 9 -/
mutual
def attestorlaw09_FoldPolys.j0 : Nat → List Int → Int → List Int → List (List Int) → Int → Int → Int → Int → Int → Int → Option (Bool)
 | 0, _, _, _, _, _, _, _, _, _, _ => none
 | k + 1, x3, x4, x15, x17, x537000, x537001, x537002, x548000, x548001, x548002 => attestorlaw09_FoldPolys.l0 k x3 x4 x15 x17 ([] : List Int) 0 x537000 x537001 x537002 x548000 x548001 x548002
def attestorlaw09_FoldPolys.l0 : Nat → List Int → Int → List Int → List (List Int) → List Int → Int → Int → Int → Int → Int → Int → Int → Option (Bool)
 | 0, _, _, _, _, _, _, _, _, _, _, _, _ => none
 | k + 1, x3, x4, x15, x17, x18, x19, x537000, x537001, x537002, x548000, x548001, x548002 => if x19 < 8 then (if 0 ≤ x19 then (if x19 < (x17.length : Int) then ((field_Pow.f k x537000 x4 (IntKind.u64.wrap (x19))).bind fun t558 => ((poly_Scale.f k x537000 (rd_L1 x17 x19) t558).bind fun t559 => ((poly_Add.f k x537000 x18 t559).bind fun t562 => (attestorlaw09_FoldPolys.l0 k x3 x4 x15 x17 t562 (wrap64 (x19 + 1)) x537000 x537001 x537002 x548000 x548001 x548002)))) else (none)) else (none)) else ((poly_Degree.f k x537000 x3).bind fun t565 => ((attestorlaw09_word.f k x548000 x548001 x548002 x18).bind fun t566 => ((attestorlaw09_same.f k x15 t566).bind fun t569 => (if t569 = true then ((code_IsWord.f k x548000 x548001 x548002 x15 (wrap64 (Int.tdiv (wrap64 ((wrap64 (t565 + 1)) + 7)) 8))).bind fun t570 => (if t570 = true then ((attestorlaw09_works.f k).bind fun t571 => (some t571)) else (none))) else (none)))))
end
def attestorlaw09_FoldPolys.f (k : Nat) (a0 : Int) (a1 : Int) (a2 : Int) (l3 : List Int) (a4 : Int) : Option (Bool) := (attestorlaw09_domain.f a0 a1 a2).bind fun bt533 => (if 0 ≤ (IntKind.u64.wrap (bt533.2.1)) then ((attestorlaw09_own.f l3 (shl .i64 1 (IntKind.u64.wrap (bt533.2.1)))).bind fun t537 => ((attestorlaw09_word.f k bt533.1 bt533.2.1 bt533.2.2 t537).bind fun t540 => ((fold_Next.f k bt533.1 bt533.2.1 bt533.2.2).bind fun bt543 => ((fold_Word.f k bt533.1 bt533.2.1 bt533.2.2 t540 a4).bind fun bt548 => ((poly_Split.f k bt533.1 t537 8).bind fun t552 => (if bt543.2.2.2 = 0 then (if bt548.2 = 0 then (if (t552.length : Int) = 8 then ((code_Valid.f bt543.1 bt543.2.1 bt543.2.2.1).bind fun t555 => (if t555 = true then ((code_Size.f bt543.1 bt543.2.1 bt543.2.2.1).bind fun t556 => (if t556 = (wrap64 ((t540.length : Int) / 8)) then (attestorlaw09_FoldPolys.j0 k t537 a4 bt548.1 t552 bt533.1 bt533.2.1 bt533.2.2 bt543.1 bt543.2.1 bt543.2.2.1) else (none))) else (none))) else (none)) else (none)) else (none))))))) else (none))
def attestorlaw09_FoldPolys.T13 : Bool × List (List Nat × List Nat) := (true, [([], []), ([0], [0]), ([], []), ([], []), ([3], [3]), ([], []), ([], []), ([5, 6], [5, 6]), ([7], [7]), ([], []), ([9], [9]), ([], []), ([], []), ([12], [12]), ([10, 11, 13], [10, 11, 13]), ([4, 8, 14, 14], [4, 8, 14]), ([1, 2, 15, 15], [1, 2, 15]), ([16, 16, 0, 1, 2, 3, 4, 5, 6, 7, 8, 9, 10, 11, 12, 13, 14, 15, 16], [2, 16])])
def attestorlaw09_FoldPolys.B13 : List Nat := [0, 1, 0, 0, 8, 0, 0, 96, 224, 0, 512, 0, 0, 4096, 15872, 32760, 65535, 131071]
theorem attestorlaw09_FoldPolys.tab13 : rtab .any (opsOf Tryd.f9 13) = attestorlaw09_FoldPolys.T13 := by kernel_rfl
theorem attestorlaw09_FoldPolys.bits13 : waitsOk attestorlaw09_FoldPolys.T13.2 attestorlaw09_FoldPolys.B13 = true := by kernel_rfl
set_option maxHeartbeats 8000000 in
set_option maxRecDepth 100000 in
theorem attestorlaw09_FoldPolys.calls (k : Nat) (a0 : Int) (a1 : Int) (a2 : Int) (A3 : Option Addr) (c3 : Nat) (l3 : List Int) (a4 : Int) (r : Bool) (w : World) (hG : Fld w) (hr3 : Kd.C (Kd.int .u64) w A3 l3.length l3) (hc3 : l3.length ≤ c3) (h : attestorlaw09_FoldPolys.f k a0 a1 a2 l3 a4 = some r) :
  Calls Tryd.prog 9 #[.int .u8 a0, .int .u8 a1, .int .u64 a2, .slice A3 l3.length c3, .int .u64 a4] w fun e w' => e = .returned (.bool r) ∧ Below w.heap.size w w' := by
 have hu24 := Tryd.underlying24
 have HG := ak hG
 clear hG
 have HR3 := ak hr3
 have HC3 := ak hc3
 clear hr3 hc3
 have HB := ak (Below.refl w.heap.size w)
 have H : ((attestorlaw09_domain.f a0 a1 a2).bind fun bt533 => (if 0 ≤ (IntKind.u64.wrap (bt533.2.1)) then ((attestorlaw09_own.f l3 (shl .i64 1 (IntKind.u64.wrap (bt533.2.1)))).bind fun t537 => ((attestorlaw09_word.f k bt533.1 bt533.2.1 bt533.2.2 t537).bind fun t540 => ((fold_Next.f k bt533.1 bt533.2.1 bt533.2.2).bind fun bt543 => ((fold_Word.f k bt533.1 bt533.2.1 bt533.2.2 t540 a4).bind fun bt548 => ((poly_Split.f k bt533.1 t537 8).bind fun t552 => (if bt543.2.2.2 = 0 then (if bt548.2 = 0 then (if (t552.length : Int) = 8 then ((code_Valid.f bt543.1 bt543.2.1 bt543.2.2.1).bind fun t555 => (if t555 = true then ((code_Size.f bt543.1 bt543.2.1 bt543.2.2.1).bind fun t556 => (if t556 = (wrap64 ((t540.length : Int) / 8)) then (attestorlaw09_FoldPolys.j0 k t537 a4 bt548.1 t552 bt533.1 bt533.2.1 bt533.2.2 bt543.1 bt543.2.1 bt543.2.2.1) else (none))) else (none))) else (none)) else (none)) else (none))))))) else (none))) = some r := h
 clear h
 revert H
 refine bd3_ fun t533 t534 t535 A6 H => ?_
 try dsimp only at H
 obtain ⟨ji7, hji7⟩ : ∃ j_ : Int, (IntKind.u64.wrap (t534)) = j_ := ⟨_, rfl⟩
 first | rw [hji7] at H | simp only [hji7] at H
 (try rw [hji7] at A6)
 obtain ⟨c8, H⟩ : (0 ≤ (ji7)) ∧ _ := it_ H
 have c8b0 := eq_true c8
 have c8b1 := decide_eq_true c8
 clear c8
 obtain ⟨ji9, hji9⟩ : ∃ j_ : Int, (shl .i64 1 (ji7)) = j_ := ⟨_, rfl⟩
 first | rw [hji9] at H | simp only [hji9] at H
 (try rw [hji9] at A6)
 have hji9_ : (IntKind.i64.wrap (1 * 2 ^ min (ji7).toNat 64)) = ji9 := hji9
 have hji9z : (ji7) ≤ 64 → (IntKind.i64.wrap (1 * 2 ^ (ji7).toNat)) = ji9 := shl_small hji9
 have hji9u : (IntKind.i64.wrap (2 ^ min (ji7).toNat 64)) = ji9 := by have h_ := hji9_; rw [Int.one_mul] at h_; exact h_
 have hji9v : (ji7) ≤ 64 → (IntKind.i64.wrap (2 ^ (ji7).toNat)) = ji9 := fun hle_ => by have h_ := hji9z hle_; rw [Int.one_mul] at h_; exact h_
 have hji9y : (wrap64 (1 * 2 ^ min (ji7).toNat 64)) = ji9 := (i64_w _).symm.trans hji9_
 have hji9x : (ji7) ≤ 64 → (wrap64 (1 * 2 ^ (ji7).toNat)) = ji9 := fun h_ => (i64_w _).symm.trans (hji9z h_)
 revert H
 refine bd_ fun t537 A10 H => ?_
 revert H
 refine bd_ fun t540 A11 H => ?_
 revert H
 refine bd4_ fun t543 t544 t545 t546 A12 H => ?_
 try dsimp only at H
 revert H
 refine bd2_ fun t548 t551 A13 H => ?_
 try dsimp only at H
 revert H
 refine bd_ fun t552 A14 H => ?_
 obtain ⟨c15, H⟩ : (t546 = 0) ∧ _ := it_ H
 have c15b0 := beq_iff_eq.mpr c15
 have c15b1 := bne_eq_false_iff_eq.mpr c15
 clear c15
 obtain ⟨c16, H⟩ : (t551 = 0) ∧ _ := it_ H
 have c16b0 := beq_iff_eq.mpr c16
 have c16b1 := bne_eq_false_iff_eq.mpr c16
 clear c16
 obtain ⟨c17, H⟩ : ((t552.length : Int) = 8) ∧ _ := it_ H
 have c17b0 := beq_iff_eq.mpr c17
 have c17b1 := bne_eq_false_iff_eq.mpr c17
 clear c17
 revert H
 refine bd_ fun t555 A18 H => ?_
 by_cases c19 : t555 = true
 ·subst c19
  rw [if_pos rfl] at H
  revert H
  refine bd_ fun t556 A20 H => ?_
  have HC21 := ak H
  clear H
  go_enter Tryd.func9, Tryd.ntmps9
  go_upto_if 73 with (first | ((with_reducible refine gate_callee (f := 17) rfl ?_); refine gl_ (some 24) Tryd.func17 #[.int .u8 a0, .int .u8 a1, .int .u64 a2] ?_; (with_reducible refine (attestorlaw09_domain.calls a0 a1 a2 t533 t534 t535 _ ?side1 A6.out).mono ?_); (case side1 => exact fU_ HG.out HB.out); rintro e w22 ⟨rfl, hb⟩; refine ⟨_, rfl, ?_⟩; refine nx1_ (below_step (bU_ HB.out) hb) ?_; clear HB; intro HB; clear hb) | ((with_reducible refine gate_dst (N := 11) rfl ?_); (try (refine gate_guard (by rfl) ?_; dsimp only)); refine box_event ?hg (N := 11) ?hd (cs := #[.int .i64 0, .int .i64 0, .int .u64 0]) (t := 24) ?hr ?_; (case hd => rfl); (case hg => rfl); (case hr => first | (go_simp; done) | (go_simp; rfl)); intro gb536 hg w23 hbox hb; refine nx4_ (below_step (bU_ HB.out) hb) (hbox) ((by rw [hg]; exact (below_size (bU_ HB.out)) : w.heap.size ≤ gb536)) ((by rw [hg]; exact (below_size (bU_ HB.out)) : w.heap.size ≤ gb536)) ?_; clear HB; intro HB BK536 GW536 GE536; clear hb hbox hg; have hcz24_0 : w23.cell? ⟨gb536, 0, none⟩ = some (.int .i64 0) := (blk_cell BK536.out 0).trans rfl; have hcz24_1 : w23.cell? ⟨gb536, 1, none⟩ = some (.int .i64 0) := (blk_cell BK536.out 1).trans rfl; have hcz24_2 : w23.cell? ⟨gb536, 2, none⟩ = some (.int .u64 0) := (blk_cell BK536.out 2).trans rfl; have hfz24_0 := blk_frozen BK536.out 0; have hfz24_1 := blk_frozen BK536.out 1; have hfz24_2 := blk_frozen BK536.out 2) | ((with_reducible refine gate_callee (f := 25) rfl ?_); refine goesL_ (some 30) rfl rfl Tryd.func25 (by kernel_rfl) rfl #[.slice A3 l3.length c3, .int .i64 ji9] rfl (by (try simp only [List.map_toArray, List.map_cons, List.map_nil]); first | done | (simp only [hji9]; rfl) | rfl | (simp only [List.length_drop, List.length_take]; rfl)) ?_; (with_reducible refine (attestorlaw09_own.calls _ _ l3 ji9 t537 _ ?side1 ?side2 A10.out).mono ?_); (case side1 => exact Kd.C_below HR3.out (by repeat (first | (with_reducible first | exact HB.out | apply below_alloc | apply pw_below_drewN | apply below_drew1 | refine below_set ?_ GE536.out) | exact HB.out))); (case side2 => exact HC3.out); rintro e w25 ⟨v538, rfl, ho0, hb⟩; refine ⟨_, rfl, ?_⟩; refine nx3_ (Kd.R_lower ho0 (below_size (by repeat (first | (with_reducible first | exact HB.out | apply below_alloc | apply pw_below_drewN | apply below_drew1 | refine below_set ?_ GE536.out) | exact HB.out)))) (blk_below (g := gb536) (o := .cells #[.int .i64 t533, .int .i64 t534, .int .u64 t535] 24 (0, 0)) (by (with_reducible repeat (first | refine blk_drewN ?_ _ | refine blk_drew ?_ | refine blk_alloc ?_ _)); refine blk_put (cs := #[.int .i64 t533, .int .i64 t534, .int .u64 0]) ?_ 2 _ rfl; (with_reducible repeat (first | refine blk_drewN ?_ _ | refine blk_drew ?_ | refine blk_alloc ?_ _)); refine blk_put (cs := #[.int .i64 t533, .int .i64 0, .int .u64 0]) ?_ 1 _ rfl; (with_reducible repeat (first | refine blk_drewN ?_ _ | refine blk_drew ?_ | refine blk_alloc ?_ _)); refine blk_put (cs := #[.int .i64 0, .int .i64 0, .int .u64 0]) ?_ 0 _ rfl; (with_reducible repeat (first | refine blk_drewN ?_ _ | refine blk_drew ?_ | refine blk_alloc ?_ _)); exact BK536.out) hb) (below_step (by repeat (first | (with_reducible first | exact HB.out | apply below_alloc | apply pw_below_drewN | apply below_drew1 | refine below_set ?_ GE536.out) | exact HB.out)) hb) ?_; clear BK536 HB; intro HO539 BK536 HB; clear hb ho0; have hcz26_0 : w25.cell? ⟨gb536, 0, none⟩ = some (.int .i64 t533) := (blk_cell BK536.out 0).trans rfl; have hcz26_1 : w25.cell? ⟨gb536, 1, none⟩ = some (.int .i64 t534) := (blk_cell BK536.out 1).trans rfl; have hcz26_2 : w25.cell? ⟨gb536, 2, none⟩ = some (.int .u64 t535) := (blk_cell BK536.out 2).trans rfl; have hfz26_0 := blk_frozen BK536.out 0; have hfz26_1 := blk_frozen BK536.out 1; have hfz26_2 := blk_frozen BK536.out 2; obtain ⟨Ao27, co27, eo27⟩ := Kd.R_slice HO539.out; subst eo27) | ((with_reducible refine gate_callee (f := 36) rfl ?_); refine gl_ (some 33) Tryd.func36 #[.agg #[.int .i64 t533, .int .i64 t534, .int .u64 t535], .slice Ao27 t537.length co27] ?_; (with_reducible refine (attestorlaw09_word.calls k t533 t534 t535 _ _ t537 t540 _ ?side1 ?side2 ?side3 A11.out).mono ?_); (case side1 => repeat (first | with_reducible exact HG.out | with_reducible exact (Fld.below HG.out HB.out) | exact (Fld.below HG.out (by repeat (first | (with_reducible first | exact HB.out | apply below_alloc | apply pw_below_drewN | apply below_drew1 | refine below_set ?_ GE536.out) | exact HB.out))) | (with_reducible refine Fld.alloc ?_ _) | (with_reducible refine Fld.drewN ?_ _) | (with_reducible refine Fld.drew ?_))); (case side2 => exact cU_ ((Kd.R_reads' HO539.out).2.2)); (case side3 => exact (Kd.R_reads' HO539.out).2.1); rintro e w28 ⟨v541, rfl, ho0, hb⟩; refine ⟨_, rfl, ?_⟩; refine nx4_ (Kd.R_elder' (rU_ HO539.out) (Kd.R_base ho0) hb) (Kd.R_lower (Kd.R_new' ho0 (Kd.R_lt (rU_ HO539.out))) (below_size (by repeat (first | (with_reducible first | exact HB.out | apply below_alloc | apply pw_below_drewN | apply below_drew1 | refine below_set ?_ GE536.out) | exact HB.out)))) (blk_below (g := gb536) (o := .cells #[.int .i64 t533, .int .i64 t534, .int .u64 t535] 24 (0, 0)) (by (with_reducible repeat (first | refine blk_drewN ?_ _ | refine blk_drew ?_ | refine blk_alloc ?_ _)); exact BK536.out) hb) (below_step (by repeat (first | (with_reducible first | exact HB.out | apply below_alloc | apply pw_below_drewN | apply below_drew1 | refine below_set ?_ GE536.out) | exact HB.out)) hb) ?_; clear HO539 BK536 HB; intro HO539 HO542 BK536 HB; clear hb ho0; have hcz29_0 : w28.cell? ⟨gb536, 0, none⟩ = some (.int .i64 t533) := (blk_cell BK536.out 0).trans rfl; have hcz29_1 : w28.cell? ⟨gb536, 1, none⟩ = some (.int .i64 t534) := (blk_cell BK536.out 1).trans rfl; have hcz29_2 : w28.cell? ⟨gb536, 2, none⟩ = some (.int .u64 t535) := (blk_cell BK536.out 2).trans rfl; have hfz29_0 := blk_frozen BK536.out 0; have hfz29_1 := blk_frozen BK536.out 1; have hfz29_2 := blk_frozen BK536.out 2) | ((with_reducible refine gate_callee (f := 10) rfl ?_); refine gl_ (some 36) Tryd.func10 #[.agg #[.int .i64 t533, .int .i64 t534, .int .u64 t535]] ?_; (with_reducible refine (fold_Next.calls k t533 t534 t535 t543 t544 t545 t546 _ ?side1 A12.out).mono ?_); (case side1 => repeat (first | with_reducible exact HG.out | with_reducible exact (Fld.below HG.out HB.out) | exact (Fld.below HG.out (by repeat (first | (with_reducible first | exact HB.out | apply below_alloc | apply pw_below_drewN | apply below_drew1 | refine below_set ?_ GE536.out) | exact HB.out))) | (with_reducible refine Fld.alloc ?_ _) | (with_reducible refine Fld.drewN ?_ _) | (with_reducible refine Fld.drew ?_))); rintro e w30 ⟨rfl, hb⟩; refine ⟨_, rfl, ?_⟩; refine nx4_ (Kd.R_below (rU_ HO539.out) hb) (Kd.R_below (rU_ HO542.out) hb) (blk_below (g := gb536) (o := .cells #[.int .i64 t533, .int .i64 t534, .int .u64 t535] 24 (0, 0)) (by (with_reducible repeat (first | refine blk_drewN ?_ _ | refine blk_drew ?_ | refine blk_alloc ?_ _)); exact BK536.out) hb) (below_step (by repeat (first | (with_reducible first | exact HB.out | apply below_alloc | apply pw_below_drewN | apply below_drew1 | refine below_set ?_ GE536.out) | exact HB.out)) hb) ?_; clear HO539 HO542 BK536 HB; intro HO539 HO542 BK536 HB; clear hb) | ((with_reducible refine gate_dst (N := 13) rfl ?_); (try (refine gate_guard (by rfl) ?_; dsimp only)); refine box_event ?hg (N := 13) ?hd (cs := #[.int .i64 0, .int .i64 0, .int .u64 0]) (t := 24) ?hr ?_; (case hd => rfl); (case hg => rfl); (case hr => first | (go_simp; done) | (go_simp; rfl)); intro gb547 hg w31 hbox hb; refine nx9_ (Kd.R_below (rU_ HO539.out) hb) (Kd.R_below (rU_ HO542.out) hb) (blk_below (g := gb536) (o := .cells #[.int .i64 t533, .int .i64 t534, .int .u64 t535] 24 (0, 0)) (by (with_reducible repeat (first | refine blk_drewN ?_ _ | refine blk_drew ?_ | refine blk_alloc ?_ _)); exact BK536.out) hb) (below_step (by repeat (first | (with_reducible first | exact HB.out | apply below_alloc | apply pw_below_drewN | apply below_drew1 | refine below_set ?_ GE536.out) | exact HB.out)) hb) (hbox) ((by rw [hg]; exact (below_size (by repeat (first | (with_reducible first | exact HB.out | apply below_alloc | apply pw_below_drewN | apply below_drew1 | refine below_set ?_ GE536.out) | exact HB.out))) : w.heap.size ≤ gb547)) ((by rw [hg]; exact (below_size (by repeat (first | (with_reducible first | exact HB.out | apply below_alloc | apply pw_below_drewN | apply below_drew1 | refine below_set ?_ GE536.out) | exact HB.out))) : w.heap.size ≤ gb547)) ((by rw [hg]; exact Nat.ne_of_lt (blk_lt (g := gb536) (o := .cells #[.int .i64 t533, .int .i64 t534, .int .u64 t535] 24 (0, 0)) (by (with_reducible repeat (first | refine blk_drewN ?_ _ | refine blk_drew ?_ | refine blk_alloc ?_ _)); exact BK536.out)) : gb536 ≠ gb547)) ((by rw [hg]; exact Nat.ne_of_gt (blk_lt (g := gb536) (o := .cells #[.int .i64 t533, .int .i64 t534, .int .u64 t535] 24 (0, 0)) (by (with_reducible repeat (first | refine blk_drewN ?_ _ | refine blk_drew ?_ | refine blk_alloc ?_ _)); exact BK536.out)) : gb547 ≠ gb536)) ?_; clear HO539 HO542 BK536 HB; intro HO539 HO542 BK536 HB BK547 GW547 GE547 NB536_547 NB547_536; clear hb hbox hg; have hnb32 := NB547_536.out; have hnc32 := NB536_547.out; have hcz33_0 : w31.cell? ⟨gb547, 0, none⟩ = some (.int .i64 0) := (blk_cell BK547.out 0).trans rfl; have hcz33_1 : w31.cell? ⟨gb547, 1, none⟩ = some (.int .i64 0) := (blk_cell BK547.out 1).trans rfl; have hcz33_2 : w31.cell? ⟨gb547, 2, none⟩ = some (.int .u64 0) := (blk_cell BK547.out 2).trans rfl; have hfz33_0 := blk_frozen BK547.out 0; have hfz33_1 := blk_frozen BK547.out 1; have hfz33_2 := blk_frozen BK547.out 2; have hcz34_0 : w31.cell? ⟨gb536, 0, none⟩ = some (.int .i64 t533) := (blk_cell BK536.out 0).trans rfl; have hcz34_1 : w31.cell? ⟨gb536, 1, none⟩ = some (.int .i64 t534) := (blk_cell BK536.out 1).trans rfl; have hcz34_2 : w31.cell? ⟨gb536, 2, none⟩ = some (.int .u64 t535) := (blk_cell BK536.out 2).trans rfl; have hfz34_0 := blk_frozen BK536.out 0; have hfz34_1 := blk_frozen BK536.out 1; have hfz34_2 := blk_frozen BK536.out 2; obtain ⟨Ao35, co35, eo35⟩ := Kd.R_slice HO542.out; subst eo35) | ((with_reducible refine gate_callee (f := 20) rfl ?_); refine gl_ (some 43) Tryd.func20 #[.agg #[.int .i64 t533, .int .i64 t534, .int .u64 t535], .slice Ao35 t540.length co35, .int .u64 a4] ?_; (with_reducible refine (fold_Word.calls k t533 t534 t535 _ _ t540 a4 t548 t551 _ ?side1 ?side2 ?side3 A13.out).mono ?_); (case side1 => repeat (first | with_reducible exact HG.out | with_reducible exact (Fld.below HG.out HB.out) | exact (Fld.below HG.out (by repeat (first | (with_reducible first | exact HB.out | apply below_alloc | apply pw_below_drewN | apply below_drew1 | refine below_set ?_ GE536.out | refine below_set ?_ GE547.out) | exact HB.out))) | (with_reducible refine Fld.alloc ?_ _) | (with_reducible refine Fld.drewN ?_ _) | (with_reducible refine Fld.drew ?_))); (case side2 => refine (Kd.R_reads' (e := 22) (base := w.heap.size) (ok := fun k_ => (True ∧ some k_ ≠ (.slice Ao27 t537.length co27 : Value).ownBlock)) (n := t540.length) (c := co35) ?_).2.2; exact (by (with_reducible repeat (first | apply Kd.R_alloc | apply Kd.R_drewN | apply Kd.R_drew)); exact (Kd.R_mono (Kd.R_far (p := ⟨gb547, 2, none⟩) (Kd.R_far (p := ⟨gb547, 1, none⟩) (Kd.R_far (p := ⟨gb547, 0, none⟩) (Kd.R_types HO542.out BK547.out (by decide)) (fun _ hk => hk.2) (.int .i64 t543)) (fun _ hk => hk.2) (.int .i64 t544)) (fun _ hk => hk.2) (.int .u64 t545)) (fun _ h_ => h_.1)))); (case side3 => exact (Kd.R_reads' HO542.out).2.1); rintro e w36 ⟨v549, rfl, ho0, hb⟩; refine ⟨_, rfl, ?_⟩; refine nx6_ (Kd.R_elder' (by (with_reducible repeat (first | apply Kd.R_alloc | apply Kd.R_drewN | apply Kd.R_drew)); exact (Kd.R_mono (Kd.R_far (p := ⟨gb547, 2, none⟩) (Kd.R_far (p := ⟨gb547, 1, none⟩) (Kd.R_far (p := ⟨gb547, 0, none⟩) (Kd.R_types HO539.out BK547.out (by decide)) (fun _ hk => hk.2) (.int .i64 t543)) (fun _ hk => hk.2) (.int .i64 t544)) (fun _ hk => hk.2) (.int .u64 t545)) (fun _ h_ => h_.1))) (Kd.R_base ho0) hb) (Kd.R_elder' (by (with_reducible repeat (first | apply Kd.R_alloc | apply Kd.R_drewN | apply Kd.R_drew)); exact (Kd.R_mono (Kd.R_far (p := ⟨gb547, 2, none⟩) (Kd.R_far (p := ⟨gb547, 1, none⟩) (Kd.R_far (p := ⟨gb547, 0, none⟩) (Kd.R_types HO542.out BK547.out (by decide)) (fun _ hk => hk.2) (.int .i64 t543)) (fun _ hk => hk.2) (.int .i64 t544)) (fun _ hk => hk.2) (.int .u64 t545)) (fun _ h_ => h_.1))) (Kd.R_base ho0) hb) (Kd.R_lower (Kd.R_new' (Kd.R_new' ho0 (Kd.R_lt (by (with_reducible repeat (first | apply Kd.R_alloc | apply Kd.R_drewN | apply Kd.R_drew)); exact (Kd.R_mono (Kd.R_far (p := ⟨gb547, 2, none⟩) (Kd.R_far (p := ⟨gb547, 1, none⟩) (Kd.R_far (p := ⟨gb547, 0, none⟩) (Kd.R_types HO539.out BK547.out (by decide)) (fun _ hk => hk.2) (.int .i64 t543)) (fun _ hk => hk.2) (.int .i64 t544)) (fun _ hk => hk.2) (.int .u64 t545)) (fun _ h_ => h_.1))))) (Kd.R_lt (by (with_reducible repeat (first | apply Kd.R_alloc | apply Kd.R_drewN | apply Kd.R_drew)); exact (Kd.R_mono (Kd.R_far (p := ⟨gb547, 2, none⟩) (Kd.R_far (p := ⟨gb547, 1, none⟩) (Kd.R_far (p := ⟨gb547, 0, none⟩) (Kd.R_types HO542.out BK547.out (by decide)) (fun _ hk => hk.2) (.int .i64 t543)) (fun _ hk => hk.2) (.int .i64 t544)) (fun _ hk => hk.2) (.int .u64 t545)) (fun _ h_ => h_.1))))) (below_size (by repeat (first | (with_reducible first | exact HB.out | apply below_alloc | apply pw_below_drewN | apply below_drew1 | refine below_set ?_ GE536.out | refine below_set ?_ GE547.out) | exact HB.out)))) (blk_below (g := gb536) (o := .cells #[.int .i64 t533, .int .i64 t534, .int .u64 t535] 24 (0, 0)) (by (with_reducible repeat (first | refine blk_drewN ?_ _ | refine blk_drew ?_ | refine blk_alloc ?_ _)); refine blk_far ?_ NB536_547.out _; (with_reducible repeat (first | refine blk_drewN ?_ _ | refine blk_drew ?_ | refine blk_alloc ?_ _)); refine blk_far ?_ NB536_547.out _; (with_reducible repeat (first | refine blk_drewN ?_ _ | refine blk_drew ?_ | refine blk_alloc ?_ _)); refine blk_far ?_ NB536_547.out _; (with_reducible repeat (first | refine blk_drewN ?_ _ | refine blk_drew ?_ | refine blk_alloc ?_ _)); exact BK536.out) hb) (blk_below (g := gb547) (o := .cells #[.int .i64 t543, .int .i64 t544, .int .u64 t545] 24 (0, 0)) (by (with_reducible repeat (first | refine blk_drewN ?_ _ | refine blk_drew ?_ | refine blk_alloc ?_ _)); refine blk_put (cs := #[.int .i64 t543, .int .i64 t544, .int .u64 0]) ?_ 2 _ rfl; (with_reducible repeat (first | refine blk_drewN ?_ _ | refine blk_drew ?_ | refine blk_alloc ?_ _)); refine blk_put (cs := #[.int .i64 t543, .int .i64 0, .int .u64 0]) ?_ 1 _ rfl; (with_reducible repeat (first | refine blk_drewN ?_ _ | refine blk_drew ?_ | refine blk_alloc ?_ _)); refine blk_put (cs := #[.int .i64 0, .int .i64 0, .int .u64 0]) ?_ 0 _ rfl; (with_reducible repeat (first | refine blk_drewN ?_ _ | refine blk_drew ?_ | refine blk_alloc ?_ _)); exact BK547.out) hb) (below_step (by repeat (first | (with_reducible first | exact HB.out | apply below_alloc | apply pw_below_drewN | apply below_drew1 | refine below_set ?_ GE536.out | refine below_set ?_ GE547.out) | exact HB.out)) hb) ?_; clear HO539 HO542 BK536 BK547 HB; intro HO539 HO542 HO550 BK536 BK547 HB; clear hb ho0; have hcz37_0 : w36.cell? ⟨gb536, 0, none⟩ = some (.int .i64 t533) := (blk_cell BK536.out 0).trans rfl; have hcz37_1 : w36.cell? ⟨gb536, 1, none⟩ = some (.int .i64 t534) := (blk_cell BK536.out 1).trans rfl; have hcz37_2 : w36.cell? ⟨gb536, 2, none⟩ = some (.int .u64 t535) := (blk_cell BK536.out 2).trans rfl; have hfz37_0 := blk_frozen BK536.out 0; have hfz37_1 := blk_frozen BK536.out 1; have hfz37_2 := blk_frozen BK536.out 2) | ((with_reducible refine gate_callee (f := 37) rfl ?_); refine gl_ (some 49) Tryd.func37 #[.int .i64 t533, .slice Ao27 t537.length co27, .int .i64 8] ?_; (with_reducible refine (poly_Split.calls k t533 _ _ t537 8 t552 _ ?side1 ?side2 ?side3 A14.out).mono ?_); (case side1 => repeat (first | with_reducible exact HG.out | with_reducible exact (Fld.below HG.out HB.out) | exact (Fld.below HG.out (by repeat (first | (with_reducible first | exact HB.out | apply below_alloc | apply pw_below_drewN | apply below_drew1 | refine below_set ?_ GE536.out | refine below_set ?_ GE547.out) | exact HB.out))) | (with_reducible refine Fld.alloc ?_ _) | (with_reducible refine Fld.drewN ?_ _) | (with_reducible refine Fld.drew ?_))); (case side2 => exact cU_ ((Kd.R_reads' HO539.out).2.2)); (case side3 => exact (Kd.R_reads' HO539.out).2.1); rintro e w38 ⟨v553, rfl, ho0, hb⟩; refine ⟨_, rfl, ?_⟩; refine nx7_ (Kd.R_below (rU_ HO539.out) hb) (Kd.R_below (rU_ HO542.out) hb) (Kd.R_below (rU_ HO550.out) hb) (Kd.S_lower (Kd.S_new' (Kd.S_new' (Kd.S_new' ho0 (Kd.R_lt (rU_ HO539.out))) (Kd.R_lt (rU_ HO542.out))) (Kd.R_lt (rU_ HO550.out))) (below_size (by repeat (first | (with_reducible first | exact HB.out | apply below_alloc | apply pw_below_drewN | apply below_drew1 | refine below_set ?_ GE536.out | refine below_set ?_ GE547.out) | exact HB.out)))) (blk_below (g := gb536) (o := .cells #[.int .i64 t533, .int .i64 t534, .int .u64 t535] 24 (0, 0)) (by (with_reducible repeat (first | refine blk_drewN ?_ _ | refine blk_drew ?_ | refine blk_alloc ?_ _)); exact BK536.out) hb) (blk_below (g := gb547) (o := .cells #[.int .i64 t543, .int .i64 t544, .int .u64 t545] 24 (0, 0)) (by (with_reducible repeat (first | refine blk_drewN ?_ _ | refine blk_drew ?_ | refine blk_alloc ?_ _)); exact BK547.out) hb) (below_step (by repeat (first | (with_reducible first | exact HB.out | apply below_alloc | apply pw_below_drewN | apply below_drew1 | refine below_set ?_ GE536.out | refine below_set ?_ GE547.out) | exact HB.out)) hb) ?_; clear HO539 HO542 HO550 BK536 BK547 HB; intro HO539 HO542 HO550 HO554 BK536 BK547 HB; clear hb ho0; obtain ⟨Ao39, co39, eo39⟩ := Kd.S_slice HO554.out; subst eo39; have hcz40_0 : w38.cell? ⟨gb547, 0, none⟩ = some (.int .i64 t543) := (blk_cell BK547.out 0).trans rfl; have hcz40_1 : w38.cell? ⟨gb547, 1, none⟩ = some (.int .i64 t544) := (blk_cell BK547.out 1).trans rfl; have hcz40_2 : w38.cell? ⟨gb547, 2, none⟩ = some (.int .u64 t545) := (blk_cell BK547.out 2).trans rfl; have hfz40_0 := blk_frozen BK547.out 0; have hfz40_1 := blk_frozen BK547.out 1; have hfz40_2 := blk_frozen BK547.out 2) | (go_at_call 38; (with_reducible refine (code_Valid.calls t543 t544 t545 true _ ?side1 A18.out).mono ?_); (case side1 => repeat (first | with_reducible exact HG.out | with_reducible exact (Fld.below HG.out HB.out) | exact (Fld.below HG.out (by repeat (first | (with_reducible first | exact HB.out | apply below_alloc | apply pw_below_drewN | apply below_drew1 | refine below_set ?_ GE536.out | refine below_set ?_ GE547.out) | exact HB.out))) | (with_reducible refine Fld.alloc ?_ _) | (with_reducible refine Fld.drewN ?_ _) | (with_reducible refine Fld.drew ?_))); rintro e w41 ⟨rfl, hb⟩; refine nx7_ (Kd.R_below (rU_ HO539.out) hb) (Kd.R_below (rU_ HO542.out) hb) (Kd.R_below (rU_ HO550.out) hb) (Kd.S_below (by (with_reducible repeat (first | apply Kd.S_alloc | apply Kd.S_drewN | apply Kd.S_drew)); exact HO554.out) hb) (blk_below (g := gb536) (o := .cells #[.int .i64 t533, .int .i64 t534, .int .u64 t535] 24 (0, 0)) (by (with_reducible repeat (first | refine blk_drewN ?_ _ | refine blk_drew ?_ | refine blk_alloc ?_ _)); exact BK536.out) hb) (blk_below (g := gb547) (o := .cells #[.int .i64 t543, .int .i64 t544, .int .u64 t545] 24 (0, 0)) (by (with_reducible repeat (first | refine blk_drewN ?_ _ | refine blk_drew ?_ | refine blk_alloc ?_ _)); exact BK547.out) hb) (below_step (by repeat (first | (with_reducible first | exact HB.out | apply below_alloc | apply pw_below_drewN | apply below_drew1 | refine below_set ?_ GE536.out | refine below_set ?_ GE547.out) | exact HB.out)) hb) ?_; clear HO539 HO542 HO550 HO554 BK536 BK547 HB; intro HO539 HO542 HO550 HO554 BK536 BK547 HB; clear hb; have hcz42_0 : w41.cell? ⟨gb547, 0, none⟩ = some (.int .i64 t543) := (blk_cell BK547.out 0).trans rfl; have hcz42_1 : w41.cell? ⟨gb547, 1, none⟩ = some (.int .i64 t544) := (blk_cell BK547.out 1).trans rfl; have hcz42_2 : w41.cell? ⟨gb547, 2, none⟩ = some (.int .u64 t545) := (blk_cell BK547.out 2).trans rfl; have hfz42_0 := blk_frozen BK547.out 0; have hfz42_1 := blk_frozen BK547.out 1; have hfz42_2 := blk_frozen BK547.out 2) | (go_at_call 33; (with_reducible refine (code_Size.calls t543 t544 t545 t556 _ ?side1 A20.out).mono ?_); (case side1 => repeat (first | with_reducible exact HG.out | with_reducible exact (Fld.below HG.out HB.out) | exact (Fld.below HG.out (by repeat (first | (with_reducible first | exact HB.out | apply below_alloc | apply pw_below_drewN | apply below_drew1 | refine below_set ?_ GE536.out | refine below_set ?_ GE547.out) | exact HB.out))) | (with_reducible refine Fld.alloc ?_ _) | (with_reducible refine Fld.drewN ?_ _) | (with_reducible refine Fld.drew ?_))); rintro e w43 ⟨rfl, hb⟩; refine nx7_ (Kd.R_below (rU_ HO539.out) hb) (Kd.R_below (rU_ HO542.out) hb) (Kd.R_below (rU_ HO550.out) hb) (Kd.S_below (by (with_reducible repeat (first | apply Kd.S_alloc | apply Kd.S_drewN | apply Kd.S_drew)); exact HO554.out) hb) (blk_below (g := gb536) (o := .cells #[.int .i64 t533, .int .i64 t534, .int .u64 t535] 24 (0, 0)) (by (with_reducible repeat (first | refine blk_drewN ?_ _ | refine blk_drew ?_ | refine blk_alloc ?_ _)); exact BK536.out) hb) (blk_below (g := gb547) (o := .cells #[.int .i64 t543, .int .i64 t544, .int .u64 t545] 24 (0, 0)) (by (with_reducible repeat (first | refine blk_drewN ?_ _ | refine blk_drew ?_ | refine blk_alloc ?_ _)); exact BK547.out) hb) (below_step (by repeat (first | (with_reducible first | exact HB.out | apply below_alloc | apply pw_below_drewN | apply below_drew1 | refine below_set ?_ GE536.out | refine below_set ?_ GE547.out) | exact HB.out)) hb) ?_; clear HO539 HO542 HO550 HO554 BK536 BK547 HB; intro HO539 HO542 HO550 HO554 BK536 BK547 HB; clear hb))
  (try simp only [Act.put, s1_, s2_, s3_])
  go_cut [] (fun wc => ∃ (kq : Nat), Aside0 (attestorlaw09_FoldPolys.j0 kq t537 a4 t548 t552 t533 t534 t535 t543 t544 t545 = some r) ∧ Aside0 (kq ≤ k) ∧ Aside0 (Kd.R (Kd.int .u64) 22 wc w.heap.size (fun k_ => some k_ ≠ (v549 : Value).ownBlock) (.slice Ao27 t537.length co27) t537) ∧ Aside0 (Kd.R (Kd.int .u64) 22 wc w.heap.size (fun k_ => some k_ ≠ ((.slice Ao27 t537.length co27) : Value).ownBlock) v549 t548) ∧ Aside0 (Kd.S (Kd.slice 22 (Kd.int .u64)) 33 wc w.heap.size (fun k_ => some k_ ≠ ((.slice Ao27 t537.length co27) : Value).ownBlock ∧ some k_ ≠ (v549 : Value).ownBlock) (.slice Ao39 t552.length co39) t552) ∧ Aside0 (wc.heap[gb536]? = some (.cells #[.int .i64 t533, .int .i64 t534, .int .u64 t535] 24 (0, 0))) ∧ Aside0 (wc.heap[gb547]? = some (.cells #[.int .i64 t543, .int .i64 t544, .int .u64 t545] 24 (0, 0))) ∧ Aside0 (Below w.heap.size w wc))
  case first =>
   have H := HC21.out
   clear HC21
   obtain ⟨c44, H⟩ : (t556 = (wrap64 ((t540.length : Int) / 8))) ∧ _ := it_ H
   have c44b0 := beq_iff_eq.mpr c44
   have c44b1 := bne_eq_false_iff_eq.mpr c44
   clear c44
   (first | rw [c44b0] | (simp only [i64_w, i32_w]; rw [c44b0]) | rw [c44b1] | skip)
   have H' := ak H
   clear H
   go_wp2
   go_meet
   case rel => exact ⟨_, H', ⟨by first | omega | exact Nat.le_refl _⟩, ⟨Kd.R_mono (rU_ HO539.out) (fun _ hk => hk.2)⟩, ⟨Kd.R_mono (rU_ HO550.out) (fun _ hk => hk.1.2)⟩, ⟨by (with_reducible repeat (first | apply Kd.S_alloc | apply Kd.S_drewN | apply Kd.S_drew)); exact Kd.S_mono HO554.out (fun _ hk => ⟨hk.1.1.2, hk.2⟩)⟩, ⟨by (with_reducible repeat (first | refine blk_drewN ?_ _ | refine blk_drew ?_ | refine blk_alloc ?_ _)); exact BK536.out⟩, ⟨by (with_reducible repeat (first | refine blk_drewN ?_ _ | refine blk_drew ?_ | refine blk_alloc ?_ _)); exact BK547.out⟩, ⟨by repeat (first | (with_reducible first | exact HB.out | apply below_alloc | apply pw_below_drewN | apply below_drew1 | refine below_set ?_ GE536.out | refine below_set ?_ GE547.out) | exact HB.out)⟩⟩
  case rest =>
   clear HC21
   (try clear c1); (try clear c2); (try clear p2); (try clear c3); (try clear c4); (try clear p6); (try clear c8); (try clear c8b0); (try clear c8b1); (try clear c9); (try clear c10); (try clear c15); (try clear c15b0); (try clear c15b1); (try clear c16); (try clear c16b0); (try clear c16b1); (try clear c17); (try clear c17b0); (try clear c17b1); (try clear c19); (try clear c20); (try clear c25); (try clear c32); (try clear c36); (try clear c37); (try clear c44); (try clear c44b0); (try clear c44b1); (try clear hcz24_0); (try clear hcz24_1); (try clear hcz24_2); (try clear hcz26_0); (try clear hcz26_1); (try clear hcz26_2); (try clear hcz29_0); (try clear hcz29_1); (try clear hcz29_2); (try clear hcz33_0); (try clear hcz33_1); (try clear hcz33_2); (try clear hcz34_0); (try clear hcz34_1); (try clear hcz34_2); (try clear hcz37_0); (try clear hcz37_1); (try clear hcz37_2); (try clear hcz40_0); (try clear hcz40_1); (try clear hcz40_2); (try clear hcz42_0); (try clear hcz42_1); (try clear hcz42_2); (try clear hfz24_0); (try clear hfz24_1); (try clear hfz24_2); (try clear hfz26_0); (try clear hfz26_1); (try clear hfz26_2); (try clear hfz29_0); (try clear hfz29_1); (try clear hfz29_2); (try clear hfz33_0); (try clear hfz33_1); (try clear hfz33_2); (try clear hfz34_0); (try clear hfz34_1); (try clear hfz34_2); (try clear hfz37_0); (try clear hfz37_1); (try clear hfz37_2); (try clear hfz40_0); (try clear hfz40_1); (try clear hfz40_2); (try clear hfz42_0); (try clear hfz42_1); (try clear hfz42_2)
   obtain ⟨kq, HA, HJ20, HO_3, HO_15, HO_17, BK536, BK547, HB⟩ := hcut
   cases kq with
   | zero => exact absurd HA.out (by simp [attestorlaw09_FoldPolys.j0])
   | succ kj20 =>
    have H := HA.out
    clear HA
    simp only [attestorlaw09_FoldPolys.j0] at H
    have H' := ak H
    clear H
    go_wp2
    go_loopg [18, 19] kj20 (fun kq v18 v19 w' => ∃ (x18_2 : List Int) (x19_2 : Int), v19 = .int .i64 x19_2 ∧ Aside0 (attestorlaw09_FoldPolys.l0 kq t537 a4 t548 t552 x18_2 x19_2 t533 t534 t535 t543 t544 t545 = some r) ∧ Aside0 (kq ≤ kj20) ∧ Aside0 (Kd.R (Kd.int .u64) 22 w' w.heap.size (fun k_ => some k_ ≠ (v549 : Value).ownBlock ∧ some k_ ≠ (v18 : Value).ownBlock) (.slice Ao27 t537.length co27) t537) ∧ Aside0 (Kd.R (Kd.int .u64) 22 w' w.heap.size (fun k_ => some k_ ≠ ((.slice Ao27 t537.length co27) : Value).ownBlock ∧ some k_ ≠ (v18 : Value).ownBlock) v549 t548) ∧ Aside0 (Kd.S (Kd.slice 22 (Kd.int .u64)) 33 w' w.heap.size (fun k_ => some k_ ≠ ((.slice Ao27 t537.length co27) : Value).ownBlock ∧ some k_ ≠ (v549 : Value).ownBlock ∧ some k_ ≠ (v18 : Value).ownBlock) (.slice Ao39 t552.length co39) t552) ∧ Aside0 (Kd.R (Kd.int .u64) 22 w' w.heap.size (fun k_ => some k_ ≠ ((.slice Ao27 t537.length co27) : Value).ownBlock ∧ some k_ ≠ (v549 : Value).ownBlock) v18 x18_2) ∧ Aside0 (w'.heap[gb536]? = some (.cells #[.int .i64 t533, .int .i64 t534, .int .u64 t535] 24 (0, 0))) ∧ Aside0 (w'.heap[gb547]? = some (.cells #[.int .i64 t543, .int .i64 t544, .int .u64 t545] 24 (0, 0))) ∧ Aside0 (Below w.heap.size w w'))
    case atStart => exact ⟨(([] : List Int)), (0), gb_, H', ⟨Nat.le_refl _⟩, ⟨Kd.R_mono (rU_ HO_3.out) (fun _ hk => ⟨hk, (by simp [Value.ownBlock])⟩)⟩, ⟨Kd.R_mono (rU_ HO_15.out) (fun _ hk => ⟨hk, (by simp [Value.ownBlock])⟩)⟩, ⟨by (with_reducible repeat (first | apply Kd.S_alloc | apply Kd.S_drewN | apply Kd.S_drew)); exact Kd.S_mono HO_17.out (fun _ hk => ⟨hk.1, ⟨hk.2, (by simp [Value.ownBlock])⟩⟩)⟩, ⟨by first | exact Kd.R_nil _ _ _ _ _ | exact Kd.N_nil _ _ _ _ _ | exact Kd.V_nil _ _ _ _ _ | exact Kd.Q_nil _ _ _ _ _ | exact Kd.S_nil _ _ _ _ _⟩, ⟨by (with_reducible repeat (first | refine blk_drewN ?_ _ | refine blk_drew ?_ | refine blk_alloc ?_ _)); exact BK536.out⟩, ⟨by (with_reducible repeat (first | refine blk_drewN ?_ _ | refine blk_drew ?_ | refine blk_alloc ?_ _)); exact BK547.out⟩, ⟨by repeat (first | (with_reducible first | exact HB.out | apply below_alloc | apply pw_below_drewN | apply below_drew1 | refine below_set ?_ GE536.out | refine below_set ?_ GE547.out) | exact HB.out)⟩⟩
    case round =>
     clear H'
     (try clear c1); (try clear c2); (try clear p2); (try clear c3); (try clear c4); (try clear p6); (try clear c8); (try clear c8b0); (try clear c8b1); (try clear c9); (try clear c10); (try clear c15); (try clear c15b0); (try clear c15b1); (try clear c16); (try clear c16b0); (try clear c16b1); (try clear c17); (try clear c17b0); (try clear c17b1); (try clear c19); (try clear c20); (try clear c25); (try clear c32); (try clear c36); (try clear c37); (try clear c44); (try clear c44b0); (try clear c44b1); (try clear hcz24_0); (try clear hcz24_1); (try clear hcz24_2); (try clear hcz26_0); (try clear hcz26_1); (try clear hcz26_2); (try clear hcz29_0); (try clear hcz29_1); (try clear hcz29_2); (try clear hcz33_0); (try clear hcz33_1); (try clear hcz33_2); (try clear hcz34_0); (try clear hcz34_1); (try clear hcz34_2); (try clear hcz37_0); (try clear hcz37_1); (try clear hcz37_2); (try clear hcz40_0); (try clear hcz40_1); (try clear hcz40_2); (try clear hcz42_0); (try clear hcz42_1); (try clear hcz42_2); (try clear hfz24_0); (try clear hfz24_1); (try clear hfz24_2); (try clear hfz26_0); (try clear hfz26_1); (try clear hfz26_2); (try clear hfz29_0); (try clear hfz29_1); (try clear hfz29_2); (try clear hfz33_0); (try clear hfz33_1); (try clear hfz33_2); (try clear hfz34_0); (try clear hfz34_1); (try clear hfz34_2); (try clear hfz37_0); (try clear hfz37_1); (try clear hfz37_2); (try clear hfz40_0); (try clear hfz40_1); (try clear hfz40_2); (try clear hfz42_0); (try clear hfz42_1); (try clear hfz42_2)
     obtain ⟨x18_2, x19_2, rfl, HA, HK2, HO_3, HO_15, HO_17, HO_18, BK536, BK547, HB⟩ := hrel
     cases gk with
     | zero => exact absurd HA.out (by simp [attestorlaw09_FoldPolys.l0])
     | succ k2 =>
      have H := HA.out
      clear HA
      simp only [attestorlaw09_FoldPolys.l0] at H
      by_cases c45 : x19_2 < 8
      ·rw [if_pos c45] at H
       have c45b0 := decide_eq_true c45
       clear c45
       obtain ⟨c46, H⟩ : (0 ≤ x19_2) ∧ _ := it_ H
       have c46b0 := decide_eq_true c46
       clear c46
       obtain ⟨c47, H⟩ : (x19_2 < (t552.length : Int)) ∧ _ := it_ H
       have c47b0 := decide_eq_true c47
       clear c47
       revert H
       refine bd_ fun t558 A48 H => ?_
       revert H
       refine bd_ fun t559 A49 H => ?_
       revert H
       refine bd_ fun t562 A50 H => ?_
       have H' := ak H
       clear H
       try go_wp2
       refine nx7_ (Kd.R_drew HO_3.out) (Kd.R_drew HO_15.out) (Kd.S_drew HO_17.out) (Kd.R_drew HO_18.out) (blk_drew BK536.out) (blk_drew BK547.out) (below_drew1 HB.out) ?_
       clear HO_3 HO_15 HO_17 HO_18 BK536 BK547 HB
       intro HO_3 HO_15 HO_17 HO_18 BK536 BK547 HB
       have p557 : 0 ≤ (x19_2 : Int) := od_
       have q557 : x19_2 < (t552.length : Int) := od_
       obtain ⟨ad557, A557_0, c557_0, e557, hx557_0, hl557_0, hi557_0⟩ := at_L1 (Kd.S_reads' HO_17.out).2.2 x19_2 p557 q557
       cases e557
       obtain ⟨ce557, hce557, hMe557, hcc557⟩ := Kd.S_get HO_17.out [] x19_2 p557 (by first | exact q557 | exact od_ | (have e_ := (Kd.S_reads' HO_17.out).1; omega))
       obtain ⟨ve557_0, rfl, ge557_0⟩ := hMe557
       have hv557_0 := hcc557 0 _ rfl
       rw [Nat.add_zero, show ((Kd.slice 22 (Kd.int .u64))).sz = 1 from rfl, Nat.mul_one] at hv557_0
       replace hv557_0 := Option.some.inj (hv557_0.symm.trans hx557_0)
       rw [hv557_0] at ge557_0
       have HL557_0 := ak (show Kd.R (Kd.int .u64) 22 _ _ _ _ (rd_L1 t552 x19_2) from ge557_0)
       clear hv557_0 ge557_0
       clear hcc557 hce557
       have HR557_0 := ak hi557_0
       have HC557_0 := ak hl557_0
       clear hi557_0 hl557_0
       replace p557 := eq_true p557
       replace q557 := eq_true q557
       refine start_ (n := 18) (S := fun w' => w'.cell? ⟨gb536, 0, none⟩ = some (.int .i64 t533) ∧ w'.cell? ⟨gb536, 1, none⟩ = some (.int .i64 t534) ∧ w'.cell? ⟨gb536, 2, none⟩ = some (.int .u64 t535) ∧ w'.cell? (ad557.add (x19_2).toNat) = some (.slice A557_0 (rd_L1 t552 x19_2).length c557_0)) (ds := []) (bv 18 0) (by kernel_rfl) rfl rfl ⟨(blk_cell BK536.out 0).trans rfl, (blk_cell BK536.out 1).trans rfl, (blk_cell BK536.out 2).trans rfl, hx557_0⟩ (fun hHeld => ?_); refine with_tabW attestorlaw09_FoldPolys.tab13 attestorlaw09_FoldPolys.bits13 (fun HT_ HW_ => ?_)
       generalize wr.drew = w51 at HO_3 HO_15 HO_17 HO_18 BK536 BK547 HB HL557_0 HR557_0 hx557_0 hHeld ⊢
       refine pr_ (i := 0) (N := some 78) (v := ?_) (a' := ?_) (bv 18 1) HT_.out ?_ ?_ ?_; rotate_left 2; (intro w'; go_simp; with_reducible rfl); (simp only [Act.put, s1_, s2_, s3_, i64_w, i32_w]; rfl)
       refine pr_ (i := 2) (N := some 80) (v := ?_) (a' := ?_) (bv 18 5) HT_.out ?_ ?_ ?_; rotate_left 2; (intro w'; go_simp; with_reducible rfl); (simp only [Act.put, s1_, s2_, s3_, i64_w, i32_w]; rfl)
       refine pr_ (i := 3) (N := some 81) (v := ?_) (a' := ?_) (bv 18 13) HT_.out ?_ ?_ ?_; rotate_left 2; (intro w'; go_simp; with_reducible rfl); (simp only [Act.put, s1_, s2_, s3_, i64_w, i32_w]; rfl)
       refine pr_ (i := 5) (N := some 83) (v := ?_) (a' := ?_) (bv 18 45) HT_.out ?_ ?_ ?_; rotate_left 2; (intro w'; go_simp; with_reducible rfl); (simp only [Act.put, s1_, s2_, s3_, i64_w, i32_w]; rfl)
       refine pr_ (i := 6) (N := some 84) (v := ?_) (a' := ?_) (bv 18 109) HT_.out ?_ ?_ ?_; rotate_left 2; (intro w'; go_simp; with_reducible rfl); (simp only [Act.put, s1_, s2_, s3_, i64_w, i32_w]; rfl)
       refine pr_ (i := 7) (N := some 85) (v := ?_) (a' := ?_) (bv 18 237) HT_.out ?_ ?_ ?_; rotate_left 2; (intro w'; go_simp; with_reducible rfl); (simp only [Act.put, s1_, s2_, s3_, i64_w, i32_w]; rfl)
       refine pr_ (i := 9) (N := some 87) (v := ?_) (a' := ?_) (bv 18 749) HT_.out ?_ ?_ ?_; rotate_left 2; (intro w'; go_simp; with_reducible rfl); (simp only [Act.put, s1_, s2_, s3_, i64_w, i32_w]; rfl)
       refine pr_ (i := 11) (N := some 89) (v := ?_) (a' := ?_) (bv 18 2797) HT_.out ?_ ?_ ?_; rotate_left 2; (intro w'; go_simp; with_reducible rfl); (simp only [Act.put, s1_, s2_, s3_, i64_w, i32_w]; rfl)
       refine pr_ (i := 12) (N := some 90) (v := ?_) (a' := ?_) (bv 18 6893) HT_.out ?_ ?_ ?_; rotate_left 2; (intro w'; go_simp; with_reducible rfl); (simp only [Act.put, s1_, s2_, s3_, i64_w, i32_w]; rfl)
       refine pr_ (i := 13) (N := some 91) (v := ?_) (a' := ?_) (bv 18 15085) HT_.out ?_ ?_ ?_; rotate_left 2; (intro w'; go_simp; with_reducible rfl); (simp only [Act.put, s1_, s2_, s3_, i64_w, i32_w]; rfl)
       refine take_ (i := 1) (N := some 79) (v := ?_) (a' := ?_) (bv 18 15087) rfl rfl (take_ofW HT_.out HW_.out (by kernel_rfl)) (fun _ _ _ h => h) (Or.inl ⟨by rfl, ?_⟩) hHeld ?_ ?_
       rotate_left
       ·rintro w' ⟨s0, s1, s2, s3⟩
        go_simp
        with_reducible rfl
       rotate_left
       ·simp only [Act.put, s1_, s2_, s3_, i64_w, i32_w]
        rfl
       refine take_ (i := 4) (N := some 82) (v := ?_) (a' := ?_) (bv 18 15103) rfl rfl (take_ofW HT_.out HW_.out (by kernel_rfl)) (fun _ _ _ h => h) (Or.inl ⟨by rfl, ?_⟩) hHeld ?_ ?_
       rotate_left
       ·rintro w' ⟨s0, s1, s2, s3⟩
        go_simp
        with_reducible rfl
       rotate_left
       ·simp only [Act.put, s1_, s2_, s3_, i64_w, i32_w]
        rfl
       refine take_ (i := 8) (N := some 86) (v := ?_) (a' := ?_) (bv 18 15359) rfl rfl (take_ofW HT_.out HW_.out (by kernel_rfl)) (fun _ _ _ h => h) (Or.inl ⟨by rfl, ?_⟩) hHeld ?_ ?_
       rotate_left
       ·rintro w' ⟨s0, s1, s2, s3⟩
        go_simp
        with_reducible rfl
       rotate_left
       ·simp only [Act.put, s1_, s2_, s3_, i64_w, i32_w]
        rfl
       refine take_ (i := 10) (N := some 88) (v := ?_) (a' := ?_) (bv 18 16383) rfl rfl (take_ofW HT_.out HW_.out (by kernel_rfl)) (fun _ _ _ h => h) (Or.inl ⟨by rfl, ?_⟩) hHeld ?_ ?_
       rotate_left
       ·rintro w' ⟨s0, s1, s2, s3⟩
        go_simp
        with_reducible rfl
       rotate_left
       ·simp only [Act.put, s1_, s2_, s3_, i64_w, i32_w]
        rfl
       refine one_ (i := 14) (N := some 92) (bv 18 32767) rfl rfl (one_of HT_.out (by kernel_rfl)) (by decide) (fun K hK => ?_)
       refine goes_ Tryd.func41 (by kernel_rfl) rfl #[.int .i64 t533, .int .u64 a4, .int .u64 (IntKind.u64.wrap (x19_2))] (by rfl) rfl rfl ga_ ?_
       with_reducible refine (field_Pow.calls k2 t533 a4 (IntKind.u64.wrap (x19_2)) t558 _ ?side1 A48.out).mono ?_
       (case side1 => repeat (first | with_reducible exact HG.out | with_reducible exact (Fld.below HG.out HB.out) | exact (Fld.below HG.out (by repeat (first | (with_reducible first | exact HB.out | apply below_alloc | apply pw_below_drewN | apply below_drew1 | refine below_set ?_ GE536.out | refine below_set ?_ GE547.out) | exact HB.out))) | (with_reducible refine Fld.alloc ?_ _) | (with_reducible refine Fld.drewN ?_ _) | (with_reducible refine Fld.drew ?_)))
       rintro e w52 ⟨rfl, hb⟩
       have HS3_ := (hb.cell (World.block_lt_of_cell? _ _ (hHeld.2.2.2))).trans (hHeld.2.2.2)
       refine ⟨_, rfl, ?_⟩
       refine nx9_ (Kd.R_below (rU_ HO_3.out) hb) (Kd.R_below (rU_ HO_15.out) hb) (Kd.S_below (by (with_reducible repeat (first | apply Kd.S_alloc | apply Kd.S_drewN | apply Kd.S_drew)); exact HO_17.out) hb) (Kd.R_below (rU_ HO_18.out) hb) (Kd.R_below (rU_ HL557_0.out) hb) (blk_below (g := gb536) (o := .cells #[.int .i64 t533, .int .i64 t534, .int .u64 t535] 24 (0, 0)) (by (with_reducible repeat (first | refine blk_drewN ?_ _ | refine blk_drew ?_ | refine blk_alloc ?_ _)); exact BK536.out) hb) (blk_below (g := gb547) (o := .cells #[.int .i64 t543, .int .i64 t544, .int .u64 t545] 24 (0, 0)) (by (with_reducible repeat (first | refine blk_drewN ?_ _ | refine blk_drew ?_ | refine blk_alloc ?_ _)); exact BK547.out) hb) (Kd.C_below (by repeat (first | (with_reducible exact HR557_0.out) | (with_reducible refine Kd.C_alloc ?_ _) | (with_reducible refine Kd.C_drewN ?_ _) | (with_reducible refine Kd.C_drew ?_) | exact HR557_0.out)) hb) (below_step (by repeat (first | (with_reducible first | exact HB.out | apply below_alloc | apply pw_below_drewN | apply below_drew1 | refine below_set ?_ GE536.out | refine below_set ?_ GE547.out) | exact HB.out)) hb) ?_
       clear HO_3 HO_15 HO_17 HO_18 HL557_0 BK536 BK547 HR557_0 HB
       intro HO_3 HO_15 HO_17 HO_18 HL557_0 BK536 BK547 HR557_0 HB
       (try clear hb)
       (try clear hb2)
       (try clear hk)
       (try clear hi)
       refine hK.out _ _ ⟨(blk_cell BK536.out 0).trans rfl, (blk_cell BK536.out 1).trans rfl, (blk_cell BK536.out 2).trans rfl, HS3_⟩ (fun hHeld => ?_)
       clear hK K
       refine norm_ (a' := ?_) ?_ ?_
       rotate_left
       ·show Act.put _ (some 92) _ = _
        simp only [Act.put, s1_, s2_, s3_, i64_w, i32_w]
        rfl
       refine one_ (i := 15) (N := some 93) (bv 18 65535) rfl rfl (one_of HT_.out (by kernel_rfl)) (by decide) (fun K hK => ?_)
       refine goes_ Tryd.func40 (by kernel_rfl) rfl #[.int .i64 t533, .slice A557_0 (rd_L1 t552 x19_2).length c557_0, .int .u64 t558] (by rfl) rfl rfl ga_ ?_
       with_reducible refine (poly_Scale.calls k2 t533 _ _ (rd_L1 t552 x19_2) t558 t559 _ ?side1 ?side2 ?side3 A49.out).mono ?_
       (case side1 => repeat (first | with_reducible exact HG.out | with_reducible exact (Fld.below HG.out HB.out) | exact (Fld.below HG.out (by repeat (first | (with_reducible first | exact HB.out | apply below_alloc | apply pw_below_drewN | apply below_drew1 | refine below_set ?_ GE536.out | refine below_set ?_ GE547.out) | exact HB.out))) | (with_reducible refine Fld.alloc ?_ _) | (with_reducible refine Fld.drewN ?_ _) | (with_reducible refine Fld.drew ?_)))
       (case side2 => repeat (first | exact (by repeat (first | (with_reducible exact HR557_0.out) | (with_reducible refine Kd.C_alloc ?_ _) | (with_reducible refine Kd.C_drewN ?_ _) | (with_reducible refine Kd.C_drew ?_) | exact HR557_0.out)) | (with_reducible refine Kd.C_alloc ?_ _) | (with_reducible refine Kd.C_drewN ?_ _) | (with_reducible refine Kd.C_drew ?_)))
       (case side3 => exact HC557_0.out)
       rintro e w53 ⟨v560, rfl, ho0, hb⟩
       have HS3_ := (hb.cell (World.block_lt_of_cell? _ _ (hHeld.2.2.2))).trans (hHeld.2.2.2)
       refine ⟨_, rfl, ?_⟩
       refine nx10_ (Kd.R_elder' (rU_ HO_3.out) (Kd.R_base ho0) hb) (Kd.R_elder' (rU_ HO_15.out) (Kd.R_base ho0) hb) (Kd.S_elder' (by (with_reducible repeat (first | apply Kd.S_alloc | apply Kd.S_drewN | apply Kd.S_drew)); exact HO_17.out) (Kd.R_base ho0) hb) (Kd.R_elder' (rU_ HO_18.out) (Kd.R_base ho0) hb) (Kd.R_elder' (rU_ HL557_0.out) (Kd.R_base ho0) hb) (Kd.R_lower (Kd.R_new' (Kd.R_new' (Kd.R_new' (Kd.R_new' ho0 (Kd.R_lt (rU_ HO_3.out))) (Kd.R_lt (rU_ HO_15.out))) (Kd.R_lt (rU_ HO_18.out))) (Kd.R_lt (rU_ HL557_0.out))) (below_size (by repeat (first | (with_reducible first | exact HB.out | apply below_alloc | apply pw_below_drewN | apply below_drew1 | refine below_set ?_ GE536.out | refine below_set ?_ GE547.out) | exact HB.out)))) (blk_below (g := gb536) (o := .cells #[.int .i64 t533, .int .i64 t534, .int .u64 t535] 24 (0, 0)) (by (with_reducible repeat (first | refine blk_drewN ?_ _ | refine blk_drew ?_ | refine blk_alloc ?_ _)); exact BK536.out) hb) (blk_below (g := gb547) (o := .cells #[.int .i64 t543, .int .i64 t544, .int .u64 t545] 24 (0, 0)) (by (with_reducible repeat (first | refine blk_drewN ?_ _ | refine blk_drew ?_ | refine blk_alloc ?_ _)); exact BK547.out) hb) (Kd.C_below (by repeat (first | (with_reducible exact HR557_0.out) | (with_reducible refine Kd.C_alloc ?_ _) | (with_reducible refine Kd.C_drewN ?_ _) | (with_reducible refine Kd.C_drew ?_) | exact HR557_0.out)) hb) (below_step (by repeat (first | (with_reducible first | exact HB.out | apply below_alloc | apply pw_below_drewN | apply below_drew1 | refine below_set ?_ GE536.out | refine below_set ?_ GE547.out) | exact HB.out)) hb) ?_
       clear HO_3 HO_15 HO_17 HO_18 HL557_0 BK536 BK547 HR557_0 HB
       intro HO_3 HO_15 HO_17 HO_18 HL557_0 HO561 BK536 BK547 HR557_0 HB
       (try clear hb)
       (try clear hb2)
       (try clear hk)
       (try clear hi)
       (try clear ho0)
       obtain ⟨Ao54, co54, eo54⟩ := Kd.R_slice HO_18.out
       (first | subst eo54 | (injection eo54 with f1_ f2_ f3_; have f4_ := f1_.symm; have f5_ := f3_.symm; clear f1_ f2_ f3_; subst f4_; subst f5_))
       obtain ⟨Ao55, co55, eo55⟩ := Kd.R_slice HO561.out
       (first | subst eo55 | (injection eo55 with f1_ f2_ f3_; have f4_ := f1_.symm; have f5_ := f3_.symm; clear f1_ f2_ f3_; subst f4_; subst f5_))
       refine hK.out _ _ ⟨(blk_cell BK536.out 0).trans rfl, (blk_cell BK536.out 1).trans rfl, (blk_cell BK536.out 2).trans rfl, HS3_⟩ (fun hHeld => ?_)
       clear hK K
       refine norm_ (a' := ?_) ?_ ?_
       rotate_left
       ·show Act.put _ (some 93) _ = _
        simp only [Act.put, s1_, s2_, s3_, i64_w, i32_w]
        rfl
       refine one_ (i := 16) (N := some 94) (bv 18 131071) rfl rfl (one_of HT_.out (by kernel_rfl)) (by decide) (fun K hK => ?_)
       refine goes_ Tryd.func39 (by kernel_rfl) rfl #[.int .i64 t533, .slice Ao54 x18_2.length co54, .slice Ao55 t559.length co55] (by rfl) rfl rfl ga_ ?_
       with_reducible refine (poly_Add.calls k2 t533 _ _ x18_2 _ _ t559 t562 _ ?side1 ?side2 ?side3 ?side4 ?side5 A50.out).mono ?_
       (case side1 => repeat (first | with_reducible exact HG.out | with_reducible exact (Fld.below HG.out HB.out) | exact (Fld.below HG.out (by repeat (first | (with_reducible first | exact HB.out | apply below_alloc | apply pw_below_drewN | apply below_drew1 | refine below_set ?_ GE536.out | refine below_set ?_ GE547.out) | exact HB.out))) | (with_reducible refine Fld.alloc ?_ _) | (with_reducible refine Fld.drewN ?_ _) | (with_reducible refine Fld.drew ?_)))
       (case side2 => exact cU_ ((Kd.R_reads' HO_18.out).2.2))
       (case side3 => exact (Kd.R_reads' HO_18.out).2.1)
       (case side4 => exact cU_ ((Kd.R_reads' HO561.out).2.2))
       (case side5 => exact (Kd.R_reads' HO561.out).2.1)
       rintro e w56 ⟨v563, rfl, ho0, hb⟩
       have HS3_ := (hb.cell (World.block_lt_of_cell? _ _ (hHeld.2.2.2))).trans (hHeld.2.2.2)
       refine ⟨_, rfl, ?_⟩
       refine nx11_ (Kd.R_elder' (rU_ HO_3.out) (Kd.R_base ho0) hb) (Kd.R_elder' (rU_ HO_15.out) (Kd.R_base ho0) hb) (Kd.S_elder' (by (with_reducible repeat (first | apply Kd.S_alloc | apply Kd.S_drewN | apply Kd.S_drew)); exact HO_17.out) (Kd.R_base ho0) hb) (Kd.R_elder' (rU_ HO_18.out) (Kd.R_base ho0) hb) (Kd.R_elder' (rU_ HL557_0.out) (Kd.R_base ho0) hb) (Kd.R_elder' (rU_ HO561.out) (Kd.R_base ho0) hb) (Kd.R_lower (Kd.R_new' (Kd.R_new' (Kd.R_new' (Kd.R_new' (Kd.R_new' ho0 (Kd.R_lt (rU_ HO_3.out))) (Kd.R_lt (rU_ HO_15.out))) (Kd.R_lt (rU_ HO_18.out))) (Kd.R_lt (rU_ HL557_0.out))) (Kd.R_lt (rU_ HO561.out))) (below_size (by repeat (first | (with_reducible first | exact HB.out | apply below_alloc | apply pw_below_drewN | apply below_drew1 | refine below_set ?_ GE536.out | refine below_set ?_ GE547.out) | exact HB.out)))) (blk_below (g := gb536) (o := .cells #[.int .i64 t533, .int .i64 t534, .int .u64 t535] 24 (0, 0)) (by (with_reducible repeat (first | refine blk_drewN ?_ _ | refine blk_drew ?_ | refine blk_alloc ?_ _)); exact BK536.out) hb) (blk_below (g := gb547) (o := .cells #[.int .i64 t543, .int .i64 t544, .int .u64 t545] 24 (0, 0)) (by (with_reducible repeat (first | refine blk_drewN ?_ _ | refine blk_drew ?_ | refine blk_alloc ?_ _)); exact BK547.out) hb) (Kd.C_below (by repeat (first | (with_reducible exact HR557_0.out) | (with_reducible refine Kd.C_alloc ?_ _) | (with_reducible refine Kd.C_drewN ?_ _) | (with_reducible refine Kd.C_drew ?_) | exact HR557_0.out)) hb) (below_step (by repeat (first | (with_reducible first | exact HB.out | apply below_alloc | apply pw_below_drewN | apply below_drew1 | refine below_set ?_ GE536.out | refine below_set ?_ GE547.out) | exact HB.out)) hb) ?_
       clear HO_3 HO_15 HO_17 HO_18 HL557_0 HO561 BK536 BK547 HR557_0 HB
       intro HO_3 HO_15 HO_17 HO_18 HL557_0 HO561 HO564 BK536 BK547 HR557_0 HB
       (try clear hb)
       (try clear hb2)
       (try clear hk)
       (try clear hi)
       (try clear ho0)
       refine hK.out _ _ ⟨(blk_cell BK536.out 0).trans rfl, (blk_cell BK536.out 1).trans rfl, (blk_cell BK536.out 2).trans rfl, HS3_⟩ (fun hHeld => ?_)
       clear hK K
       refine norm_ (a' := ?_) ?_ ?_
       rotate_left
       ·show Act.put _ (some 94) _ = _
        simp only [Act.put, s1_, s2_, s3_, i64_w, i32_w]
        rfl
       refine pr_ (i := 17) (N := some 18) (v := ?_) (a' := ?_) (bv 18 262143) HT_.out ?_ ?_ ?_; rotate_left 2; (intro w'; go_simp; with_reducible rfl); (simp only [Act.put, s1_, s2_, s3_, i64_w, i32_w]; rfl)
       refine done_ (done_of HT_.out (by kernel_rfl)) ?_
       try go_wp2
       go_roundg k2
       case measure => have := HJ20.out; have := HK2.out; omega
       case rel => exact ⟨(t562), (wrap64 (x19_2 + 1)), gb_, H', ⟨by have := HJ20.out; have := HK2.out; omega⟩, ⟨Kd.R_mono (rU_ HO_3.out) (fun _ hk => ⟨hk.1.1.1, hk.2⟩)⟩, ⟨Kd.R_mono (rU_ HO_15.out) (fun _ hk => ⟨hk.1.1.1, hk.2⟩)⟩, ⟨by (with_reducible repeat (first | apply Kd.S_alloc | apply Kd.S_drewN | apply Kd.S_drew)); exact Kd.S_mono HO_17.out (fun _ hk => ⟨hk.1.1.1, ⟨hk.1.1.2.1, hk.2⟩⟩)⟩, ⟨Kd.R_mono (rU_ HO564.out) (fun _ hk => ⟨hk.1.1.1.1.2, hk.1.1.1.2⟩)⟩, ⟨by (with_reducible repeat (first | refine blk_drewN ?_ _ | refine blk_drew ?_ | refine blk_alloc ?_ _)); exact BK536.out⟩, ⟨by (with_reducible repeat (first | refine blk_drewN ?_ _ | refine blk_drew ?_ | refine blk_alloc ?_ _)); exact BK547.out⟩, ⟨by repeat (first | (with_reducible first | exact HB.out | apply below_alloc | apply pw_below_drewN | apply below_drew1 | refine below_set ?_ GE536.out | refine below_set ?_ GE547.out) | exact HB.out)⟩⟩
      ·rw [if_neg c45] at H
       have c45b0 := decide_eq_false c45
       clear c45
       revert H
       refine bd_ fun t565 A57 H => ?_
       revert H
       refine bd_ fun t566 A58 H => ?_
       revert H
       refine bd_ fun t569 A59 H => ?_
       by_cases c60 : t569 = true
       ·subst c60
        rw [if_pos rfl] at H
        revert H
        refine bd_ fun t570 A61 H => ?_
        by_cases c62 : t570 = true
        ·subst c62
         rw [if_pos rfl] at H
         revert H
         refine bd_ fun t571 A63 H => ?_
         obtain rfl := Option.some.inj H
         have hnb64 := NB536_547.out
         have hnc64 := NB547_536.out
         have hcz65_0 : wr.cell? ⟨gb536, 0, none⟩ = some (.int .i64 t533) := (blk_cell BK536.out 0).trans rfl
         have hcz65_1 : wr.cell? ⟨gb536, 1, none⟩ = some (.int .i64 t534) := (blk_cell BK536.out 1).trans rfl
         have hcz65_2 : wr.cell? ⟨gb536, 2, none⟩ = some (.int .u64 t535) := (blk_cell BK536.out 2).trans rfl
         have hfz65_0 := blk_frozen BK536.out 0
         have hfz65_1 := blk_frozen BK536.out 1
         have hfz65_2 := blk_frozen BK536.out 2
         go_wp2_with (first | ((with_reducible refine gate_callee (f := 42) rfl ?_); refine gl_ (some 98) Tryd.func42 #[.int .i64 t533, .slice Ao27 t537.length co27] ?_; (with_reducible refine (poly_Degree.calls k2 t533 _ _ t537 t565 _ ?side1 ?side2 ?side3 A57.out).mono ?_); (case side1 => repeat (first | with_reducible exact HG.out | with_reducible exact (Fld.below HG.out HB.out) | exact (Fld.below HG.out (by repeat (first | (with_reducible first | exact HB.out | apply below_alloc | apply pw_below_drewN | apply below_drew1 | refine below_set ?_ GE536.out | refine below_set ?_ GE547.out) | exact HB.out))) | (with_reducible refine Fld.alloc ?_ _) | (with_reducible refine Fld.drewN ?_ _) | (with_reducible refine Fld.drew ?_))); (case side2 => exact cU_ ((Kd.R_reads' HO_3.out).2.2)); (case side3 => exact (Kd.R_reads' HO_3.out).2.1); rintro e w66 ⟨rfl, hb⟩; refine ⟨_, rfl, ?_⟩; refine nx7_ (Kd.R_below (rU_ HO_3.out) hb) (Kd.R_below (rU_ HO_15.out) hb) (Kd.S_below (by (with_reducible repeat (first | apply Kd.S_alloc | apply Kd.S_drewN | apply Kd.S_drew)); exact HO_17.out) hb) (Kd.R_below (rU_ HO_18.out) hb) (blk_below (g := gb536) (o := .cells #[.int .i64 t533, .int .i64 t534, .int .u64 t535] 24 (0, 0)) (by (with_reducible repeat (first | refine blk_drewN ?_ _ | refine blk_drew ?_ | refine blk_alloc ?_ _)); exact BK536.out) hb) (blk_below (g := gb547) (o := .cells #[.int .i64 t543, .int .i64 t544, .int .u64 t545] 24 (0, 0)) (by (with_reducible repeat (first | refine blk_drewN ?_ _ | refine blk_drew ?_ | refine blk_alloc ?_ _)); exact BK547.out) hb) (below_step (by repeat (first | (with_reducible first | exact HB.out | apply below_alloc | apply pw_below_drewN | apply below_drew1 | refine below_set ?_ GE536.out | refine below_set ?_ GE547.out) | exact HB.out)) hb) ?_; clear HO_3 HO_15 HO_17 HO_18 BK536 BK547 HB; intro HO_3 HO_15 HO_17 HO_18 BK536 BK547 HB; clear hb; have hcz67_0 : w66.cell? ⟨gb547, 0, none⟩ = some (.int .i64 t543) := (blk_cell BK547.out 0).trans rfl; have hcz67_1 : w66.cell? ⟨gb547, 1, none⟩ = some (.int .i64 t544) := (blk_cell BK547.out 1).trans rfl; have hcz67_2 : w66.cell? ⟨gb547, 2, none⟩ = some (.int .u64 t545) := (blk_cell BK547.out 2).trans rfl; have hfz67_0 := blk_frozen BK547.out 0; have hfz67_1 := blk_frozen BK547.out 1; have hfz67_2 := blk_frozen BK547.out 2; obtain ⟨Ao68, co68, eo68⟩ := Kd.R_slice HO_18.out; subst eo68) | ((with_reducible refine gate_callee (f := 36) rfl ?_); refine gl_ (some 103) Tryd.func36 #[.agg #[.int .i64 t543, .int .i64 t544, .int .u64 t545], .slice Ao68 x18_2.length co68] ?_; (with_reducible refine (attestorlaw09_word.calls k2 t543 t544 t545 _ _ x18_2 t566 _ ?side1 ?side2 ?side3 A58.out).mono ?_); (case side1 => repeat (first | with_reducible exact HG.out | with_reducible exact (Fld.below HG.out HB.out) | exact (Fld.below HG.out (by repeat (first | (with_reducible first | exact HB.out | apply below_alloc | apply pw_below_drewN | apply below_drew1 | refine below_set ?_ GE536.out | refine below_set ?_ GE547.out) | exact HB.out))) | (with_reducible refine Fld.alloc ?_ _) | (with_reducible refine Fld.drewN ?_ _) | (with_reducible refine Fld.drew ?_))); (case side2 => exact cU_ ((Kd.R_reads' HO_18.out).2.2)); (case side3 => exact (Kd.R_reads' HO_18.out).2.1); rintro e w69 ⟨v567, rfl, ho0, hb⟩; refine ⟨_, rfl, ?_⟩; refine nx8_ (Kd.R_elder' (rU_ HO_3.out) (Kd.R_base ho0) hb) (Kd.R_elder' (rU_ HO_15.out) (Kd.R_base ho0) hb) (Kd.S_elder' (by (with_reducible repeat (first | apply Kd.S_alloc | apply Kd.S_drewN | apply Kd.S_drew)); exact HO_17.out) (Kd.R_base ho0) hb) (Kd.R_elder' (rU_ HO_18.out) (Kd.R_base ho0) hb) (Kd.R_lower (Kd.R_new' (Kd.R_new' (Kd.R_new' ho0 (Kd.R_lt (rU_ HO_3.out))) (Kd.R_lt (rU_ HO_15.out))) (Kd.R_lt (rU_ HO_18.out))) (below_size (by repeat (first | (with_reducible first | exact HB.out | apply below_alloc | apply pw_below_drewN | apply below_drew1 | refine below_set ?_ GE536.out | refine below_set ?_ GE547.out) | exact HB.out)))) (blk_below (g := gb536) (o := .cells #[.int .i64 t533, .int .i64 t534, .int .u64 t535] 24 (0, 0)) (by (with_reducible repeat (first | refine blk_drewN ?_ _ | refine blk_drew ?_ | refine blk_alloc ?_ _)); exact BK536.out) hb) (blk_below (g := gb547) (o := .cells #[.int .i64 t543, .int .i64 t544, .int .u64 t545] 24 (0, 0)) (by (with_reducible repeat (first | refine blk_drewN ?_ _ | refine blk_drew ?_ | refine blk_alloc ?_ _)); exact BK547.out) hb) (below_step (by repeat (first | (with_reducible first | exact HB.out | apply below_alloc | apply pw_below_drewN | apply below_drew1 | refine below_set ?_ GE536.out | refine below_set ?_ GE547.out) | exact HB.out)) hb) ?_; clear HO_3 HO_15 HO_17 HO_18 BK536 BK547 HB; intro HO_3 HO_15 HO_17 HO_18 HO568 BK536 BK547 HB; clear hb ho0; obtain ⟨Ao70, co70, eo70⟩ := Kd.R_slice HO_15.out; subst eo70; obtain ⟨Ao71, co71, eo71⟩ := Kd.R_slice HO568.out; subst eo71) | ((with_reducible refine gate_callee (f := 21) rfl ?_); refine gl_ (some 104) Tryd.func21 #[.slice Ao70 t548.length co70, .slice Ao71 t566.length co71] ?_; (with_reducible refine (attestorlaw09_same.calls k2 _ _ t548 _ _ t566 true _ ?side1 ?side2 ?side3 ?side4 A59.out).mono ?_); (case side1 => exact cU_ ((Kd.R_reads' HO_15.out).2.2)); (case side2 => exact (Kd.R_reads' HO_15.out).2.1); (case side3 => exact cU_ ((Kd.R_reads' HO568.out).2.2)); (case side4 => exact (Kd.R_reads' HO568.out).2.1); rintro e w' ⟨rfl, ⟨nd, rfl⟩⟩; refine ⟨_, rfl, ?_⟩; have hcz72_0 : w69.cell? ⟨gb547, 0, none⟩ = some (.int .i64 t543) := (blk_cell BK547.out 0).trans rfl; have hcz72_1 : w69.cell? ⟨gb547, 1, none⟩ = some (.int .i64 t544) := (blk_cell BK547.out 1).trans rfl; have hcz72_2 : w69.cell? ⟨gb547, 2, none⟩ = some (.int .u64 t545) := (blk_cell BK547.out 2).trans rfl; have hfz72_0 := blk_frozen BK547.out 0; have hfz72_1 := blk_frozen BK547.out 1; have hfz72_2 := blk_frozen BK547.out 2) | (go_at_call 43; (with_reducible refine (code_IsWord.calls k2 t543 t544 t545 _ _ t548 (wrap64 (Int.tdiv (wrap64 ((wrap64 (t565 + 1)) + 7)) 8)) true _ ?side1 ?side2 ?side3 A61.out).mono ?_); (case side1 => repeat (first | with_reducible exact HG.out | with_reducible exact (Fld.below HG.out HB.out) | exact (Fld.below HG.out (by repeat (first | (with_reducible first | exact HB.out | apply below_alloc | apply pw_below_drewN | apply below_drew1 | refine below_set ?_ GE536.out | refine below_set ?_ GE547.out) | exact HB.out))) | (with_reducible refine Fld.alloc ?_ _) | (with_reducible refine Fld.drewN ?_ _) | (with_reducible refine Fld.drew ?_))); (case side2 => exact cU_ ((Kd.R_reads' HO_15.out).2.2)); (case side3 => exact (Kd.R_reads' HO_15.out).2.1); rintro e w73 ⟨rfl, hb⟩; refine nx8_ (Kd.R_below (rU_ HO_3.out) hb) (Kd.R_below (rU_ HO_15.out) hb) (Kd.S_below (by (with_reducible repeat (first | apply Kd.S_alloc | apply Kd.S_drewN | apply Kd.S_drew)); exact HO_17.out) hb) (Kd.R_below (rU_ HO_18.out) hb) (Kd.R_below (rU_ HO568.out) hb) (blk_below (g := gb536) (o := .cells #[.int .i64 t533, .int .i64 t534, .int .u64 t535] 24 (0, 0)) (by (with_reducible repeat (first | refine blk_drewN ?_ _ | refine blk_drew ?_ | refine blk_alloc ?_ _)); exact BK536.out) hb) (blk_below (g := gb547) (o := .cells #[.int .i64 t543, .int .i64 t544, .int .u64 t545] 24 (0, 0)) (by (with_reducible repeat (first | refine blk_drewN ?_ _ | refine blk_drew ?_ | refine blk_alloc ?_ _)); exact BK547.out) hb) (below_step (by repeat (first | (with_reducible first | exact HB.out | apply below_alloc | apply pw_below_drewN | apply below_drew1 | refine below_set ?_ GE536.out | refine below_set ?_ GE547.out) | exact HB.out)) hb) ?_; clear HO_3 HO_15 HO_17 HO_18 HO568 BK536 BK547 HB; intro HO_3 HO_15 HO_17 HO_18 HO568 BK536 BK547 HB; clear hb) | (go_at_call 16; (with_reducible refine (attestorlaw09_works.calls k2  t571 _ ?side1 A63.out).mono ?_); (case side1 => repeat (first | with_reducible exact HG.out | with_reducible exact (Fld.below HG.out HB.out) | exact (Fld.below HG.out (by repeat (first | (with_reducible first | exact HB.out | apply below_alloc | apply pw_below_drewN | apply below_drew1 | refine below_set ?_ GE536.out | refine below_set ?_ GE547.out) | exact HB.out))) | (with_reducible refine Fld.alloc ?_ _) | (with_reducible refine Fld.drewN ?_ _) | (with_reducible refine Fld.drew ?_))); rintro e w74 ⟨rfl, hb⟩; refine nx8_ (Kd.R_below (rU_ HO_3.out) hb) (Kd.R_below (rU_ HO_15.out) hb) (Kd.S_below (by (with_reducible repeat (first | apply Kd.S_alloc | apply Kd.S_drewN | apply Kd.S_drew)); exact HO_17.out) hb) (Kd.R_below (rU_ HO_18.out) hb) (Kd.R_below (rU_ HO568.out) hb) (blk_below (g := gb536) (o := .cells #[.int .i64 t533, .int .i64 t534, .int .u64 t535] 24 (0, 0)) (by (with_reducible repeat (first | refine blk_drewN ?_ _ | refine blk_drew ?_ | refine blk_alloc ?_ _)); exact BK536.out) hb) (blk_below (g := gb547) (o := .cells #[.int .i64 t543, .int .i64 t544, .int .u64 t545] 24 (0, 0)) (by (with_reducible repeat (first | refine blk_drewN ?_ _ | refine blk_drew ?_ | refine blk_alloc ?_ _)); exact BK547.out) hb) (below_step (by repeat (first | (with_reducible first | exact HB.out | apply below_alloc | apply pw_below_drewN | apply below_drew1 | refine below_set ?_ GE536.out | refine below_set ?_ GE547.out) | exact HB.out)) hb) ?_; clear HO_3 HO_15 HO_17 HO_18 HO568 BK536 BK547 HB; intro HO_3 HO_15 HO_17 HO_18 HO568 BK536 BK547 HB; clear hb))
         go_ret
         exact ⟨by first | rfl | (simp [errW_none, errW_some] <;> rfl) | (simp only [← hji7, ← hji9]; first | rfl | (simp [errW_none, errW_some] <;> rfl)) | (simp [*, errW_none, errW_some] <;> rfl), by repeat (first | (with_reducible first | exact HB.out | apply below_alloc | apply pw_below_drewN | apply below_drew1 | refine below_set ?_ GE536.out | refine below_set ?_ GE547.out) | exact HB.out)⟩
        ·replace c62 := Bool.eq_false_iff.mpr c62
         subst c62
         rw [if_neg (show ¬ (false = true) by decide)] at H
         exact absurd H (by simp)
       ·replace c60 := Bool.eq_false_iff.mpr c60
        subst c60
        rw [if_neg (show ¬ (false = true) by decide)] at H
        exact absurd H (by simp)
 ·replace c19 := Bool.eq_false_iff.mpr c19
  subst c19
  rw [if_neg (show ¬ (false = true) by decide)] at H
  exact absurd H (by simp)

/-- THE ONE PURE STATEMENT of attestorlaw09_FoldPolys: yours. -/
def attestorlaw09_FoldPolys.Pure : Prop := ∀ (a0 : Int) (a1 : Int) (a2 : Int) (l3 : List Int) (a4 : Int), (Lit.int .u8 a0).wf = true → (Lit.int .u8 a1).wf = true → (Lit.int .u64 a2).wf = true → l3.length ≤ maxLen → l3.length * 8 ≤ 140737488351232 → (∀ x ∈ l3, (Lit.int .u64 x).wf = true) → (Lit.int .u64 a4).wf = true → ∃ k, attestorlaw09_FoldPolys.f k a0 a1 a2 l3 a4 = some true
theorem attestorlaw09_FoldPolys.walk (P : attestorlaw09_FoldPolys.Pure) (a0 : Int) (a1 : Int) (a2 : Int) (a3 : Option Addr) (len3 cap3 : Nat) (z3 : List Int) (a4 : Int) (w : World) (hG : Fld w) (w0 : (Lit.int .u8 a0).wf = true) (w1 : (Lit.int .u8 a1).wf = true) (w2 : (Lit.int .u64 a2).wf = true) (w3 : (a3 = none ∧ len3 = 0 ∧ cap3 = 0 ∧ z3 = []) ∨ ∃ x, a3 = some x ∧ len3 ≤ cap3 ∧ cap3 ≤ maxLen ∧ z3.length = cap3 ∧ (∀ i, i < z3.length → w.cell? (x.add i) = some (.int .u64 (z3.getD i 0))) ∧ ∀ n ∈ z3, (Lit.int .u64 n).wf = true) (y3 : len3 * 8 ≤ 140737488351232) (w4 : (Lit.int .u64 a4).wf = true) :
  Calls Tryd.prog 9 #[.int .u8 a0, .int .u8 a1, .int .u64 a2, .slice a3 len3 cap3, .int .u64 a4] w fun e w' => e = .returned (.bool true) ∧ Below w.heap.size w w' := by
 obtain ⟨l3, rfl, hr3, hm3, hw3, hc3⟩ := ReadsInt.ofRowC w3
 obtain ⟨k, h⟩ := P a0 a1 a2 l3 a4 w0 w1 w2 hm3 y3 hw3 w4
 refine (attestorlaw09_FoldPolys.calls k a0 a1 a2 _ _ l3 a4 true w hG (Kd.C_of_reads (d := (0 : Int)) (h1 := fun _ => rfl) hr3) hc3 h).mono ?_
 rintro e w' ⟨rfl, hd⟩
 exact ⟨rfl, hd⟩

end Go.Proofs.YthinfmfjpaikiaaDoor.Q

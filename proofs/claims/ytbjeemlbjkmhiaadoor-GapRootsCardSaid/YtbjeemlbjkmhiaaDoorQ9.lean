import Derived.Test.YtbjeemlbjkmhiaaDoorQ0
import Derived.Test.YtbjeemlbjkmhiaaDoorQ1
import Derived.Test.YtbjeemlbjkmhiaaDoorQ2
import Derived.Test.YtbjeemlbjkmhiaaDoorQ4
namespace Go.Proofs.YtbjeemlbjkmhiaaDoor.Q
open Go.RowKit Go.Proofs.YtbjeemlbjkmhiaaDoorW.PrintWords Go.Proofs.YtbjeemlbjkmhiaaDoorW.PrintLast Go.Proofs.YtbjeemlbjkmhiaaDoorW.PrintMore
open Kd (R_below R_mono R_lower R_newM R_lt R_slice R_reads' R_V R_tight R_make V_below V_mono V_lower V_slice V_reads' V_mk C_below fresh' R_drew V_drew C_of_reads V_at)
attribute [local go_sem] max2_int min2_int max_two min_two max_three min_three max_four min_four   -- for this text's walks alone
set_option linter.unusedVariables false
set_option linter.unusedSimpArgs false

def field_Reduce.f (a0 : Int) (a1 : Int) : Option (Int) := (field_Valid.f a0).bind fun t792 => (if t792 = true then ((field_P.f a0).bind fun t793 => (if t793 = 0 then (none) else (some (Int.tmod a1 t793)))) else (some 0))
set_option maxHeartbeats 8000000 in
set_option maxRecDepth 100000 in
theorem field_Reduce.calls (a0 : Int) (a1 : Int) (r : Int) (w : World) (hG : Fld w) (h : field_Reduce.f a0 a1 = some r) :
  Calls Tryd.prog 32 #[.int .i64 a0, .int .u64 a1] w fun e w' => e = .returned (.int .u64 r) ∧ Below w.heap.size w w' := by
 have HG := ak hG
 clear hG
 have HB := ak (Below.refl w.heap.size w)
 have H := h
 clear h
 unfold field_Reduce.f at H
 revert H
 refine bd_ fun t792 A3 H => ?_
 by_cases c4 : t792 = true
 ·subst c4
  rw [if_pos rfl] at H
  revert H
  refine bd_ fun t793 A5 H => ?_
  by_cases c6 : t793 = 0
  ·rw [if_pos c6] at H
   exact absurd H (by simp)
  rw [if_neg c6] at H
  have c6b0 := beq_eq_false_iff_ne.mpr c6
  have c6b1 := bne_iff_ne.mpr c6
  obtain rfl := Option.some.inj H
  go_enter Tryd.func32, Tryd.ntmps32
  go_wp2_with (first | ((with_reducible refine gate_callee (f := 43) rfl ?_); refine gl_ (some 6) Tryd.func43 #[.int .i64 a0] ?_; (with_reducible refine (field_Valid.calls a0 true _ A3.out).mono ?_); rintro e w' ⟨rfl, ⟨nd, rfl⟩⟩; refine ⟨_, rfl, ?_⟩) | ((with_reducible refine gate_callee (f := 47) rfl ?_); refine gl_ (some 10) Tryd.func47 #[.int .i64 a0] ?_; (with_reducible refine (field_P.calls a0 t793 _ ?side1 A5.out).mono ?_); (case side1 => exact fU_ HG.out HB.out); rintro e w7 ⟨rfl, hb⟩; refine ⟨_, rfl, ?_⟩; refine nx1_ (below_step (bU_ HB.out) hb) ?_; clear HB; intro HB; clear hb))
  go_ret
  exact ⟨eW_, bU_ HB.out⟩
 replace c4 := Bool.eq_false_iff.mpr c4
 subst c4
 rw [if_neg (show ¬ (false = true) by decide)] at H
 obtain rfl := Option.some.inj H
 go_enter Tryd.func32, Tryd.ntmps32
 go_wp2_with (first | ((with_reducible refine gate_callee (f := 43) rfl ?_); refine gl_ (some 6) Tryd.func43 #[.int .i64 a0] ?_; (with_reducible refine (field_Valid.calls a0 false _ A3.out).mono ?_); rintro e w' ⟨rfl, ⟨nd, rfl⟩⟩; refine ⟨_, rfl, ?_⟩))
 go_ret
 exact ⟨eW_, bU_ HB.out⟩

def poly_trim.l0 : Nat → List Int → Int → Option (List Int)
 | 0, _, _ => none
 | k + 1, x0, x3 => if x3 > 0 then (if 0 ≤ (wrap64 (x3 - 1)) then (if (wrap64 (x3 - 1)) < (x0.length : Int) then (if (rd x0 (wrap64 (x3 - 1))) = 0 then (poly_trim.l0 k x0 (wrap64 (x3 - 1))) else (if 0 ≤ x3 then (if x3 ≤ (x0.length : Int) then (some (x0.take (x3 : Int).toNat)) else (none)) else (none))) else (none)) else (none)) else (if 0 ≤ x3 then (if x3 ≤ (x0.length : Int) then (some (x0.take (x3 : Int).toNat)) else (none)) else (none))
def poly_trim.f (k : Nat) (l0 : List Int) : Option (List Int) := poly_trim.l0 k l0 (l0.length : Int)
set_option maxHeartbeats 8000000 in
set_option maxRecDepth 100000 in
theorem poly_trim.calls (k : Nat) (P0_ : Nat → Prop) (A0 : Option Addr) (c0 : Nat) (l0 : List Int) (r : List Int) (w : World) (hs0 : Kd.V (Kd.int .u64) 48 w w.heap.size (fun k_ => P0_ k_) (.slice A0 l0.length c0) l0) (h : poly_trim.f k l0 = some r) :
  Calls Tryd.prog 109 #[.slice A0 l0.length c0] w fun e w' => ∃ v0_ : Value, e = .returned (v0_) ∧ Kd.V (Kd.int .u64) 48 w' w.heap.size (fun k_ => (P0_ k_ ∨ w.heap.size ≤ k_)) v0_ r ∧ Below w.heap.size w w' := by
 have HO0 := ak (show Kd.V (Kd.int .u64) 48 w w.heap.size (fun k_ => (P0_ k_ ∨ w.heap.size ≤ k_)) (.slice A0 l0.length c0) l0 from V_mono hs0 (fun k_ hk => .inl hk))
 have HB := ak (Below.refl w.heap.size w)
 have H : (poly_trim.l0 k l0 (l0.length : Int)) = some r := h
 clear h
 have H' := ak H
 clear H
 go_enter Tryd.func109, Tryd.ntmps109
 go_wp2
 go_loopg [3] k (fun kq v3 w' => ∃ (x3_1 : Int), v3 = .int .i64 x3_1 ∧ Aside0 (poly_trim.l0 kq l0 x3_1 = some r) ∧ Aside0 (kq ≤ k) ∧ Aside0 (Kd.V (Kd.int .u64) 48 w' w.heap.size (fun k_ => (P0_ k_ ∨ w.heap.size ≤ k_)) (.slice A0 l0.length c0) l0) ∧ Aside0 (Below w.heap.size w w'))
 case atStart => exact ⟨((l0.length : Int)), gb_, H', ⟨Nat.le_refl _⟩, ⟨vU_ HO0.out⟩, ⟨bU_ HB.out⟩⟩
 case round =>
  clear H'
  try clear c1
  obtain ⟨x3_1, rfl, HA, HK1, HO_0, HB⟩ := hrel
  cases gk with
  | zero => exact absurd HA.out (by simp [poly_trim.l0])
  | succ k1 =>
   have H := HA.out
   clear HA
   simp only [poly_trim.l0] at H
   by_cases c2 : x3_1 > 0
   ·rw [if_pos c2] at H
    have c2b0 : decide (0 < x3_1) = true := decide_eq_true c2
    clear c2
    obtain ⟨ji3, hji3⟩ : ∃ j_ : Int, (wrap64 (x3_1 - 1)) = j_ := ⟨_, rfl⟩
    first | rw [hji3] at H | simp only [hji3] at H
    have hji3w : (IntKind.i64.wrap (x3_1 - 1)) = ji3 := (i64_w _).trans hji3
    obtain ⟨c4, H⟩ : (0 ≤ (ji3)) ∧ _ := it_ H
    have c4b0 := decide_eq_true c4
    clear c4
    obtain ⟨c5, H⟩ : ((ji3) < (l0.length : Int)) ∧ _ := it_ H
    have c5b0 := decide_eq_true c5
    clear c5
    by_cases c6 : (rd l0 (ji3)) = 0
    ·rw [if_pos c6] at H
     have c6b0 := beq_iff_eq.mpr c6
     have c6b1 := bne_eq_false_iff_eq.mpr c6
     clear c6
     have H' := ak H
     clear H
     have p794 : 0 ≤ ((ji3) : Int) := od_
     have q794 : (ji3) < (l0.length : Int) := od_
     obtain ⟨ad794, e794, hx794_0⟩ := Kd.at_int (V_reads' HO_0.out).2.2 (ji3) p794 q794
     cases e794
     replace p794 := eq_true p794
     replace q794 := eq_true q794
     go_wp2
     go_roundg k1
     case measure => have := HK1.out; omega
     case rel => exact ⟨(ji3), (by first | rfl | (simp; done) | (simp only [← hji3] <;> (first | rfl | simp)) | (simp [*]; done)), H', ⟨by have := HK1.out; omega⟩, ⟨vU_ HO_0.out⟩, ⟨bU_ HB.out⟩⟩
    rw [if_neg c6] at H
    have c6b0 := beq_eq_false_iff_ne.mpr c6
    have c6b1 := bne_iff_ne.mpr c6
    obtain ⟨c7, H⟩ : (0 ≤ x3_1) ∧ _ := it_ H
    have c7b0 := eq_true c7
    have c7b1 := decide_eq_true c7
    clear c7
    obtain ⟨c8, H⟩ : (x3_1 ≤ (l0.length : Int)) ∧ _ := it_ H
    have c8b0 := eq_true c8
    have c8b1 := decide_eq_true c8
    clear c8
    obtain ⟨y795, hy795⟩ : ∃ y_ : List Int, y_ = (l0.take (x3_1 : Int).toNat) := ⟨_, rfl⟩
    first | rw [Option.bind_some, ← hy795] at H | rw [← hy795] at H
    have Ny795 := ak hy795
    clear hy795
    obtain rfl := Option.some.inj H
    have p794 : 0 ≤ ((ji3) : Int) := od_
    have q794 : (ji3) < (l0.length : Int) := od_
    obtain ⟨ad794, e794, hx794_0⟩ := Kd.at_int (V_reads' HO_0.out).2.2 (ji3) p794 q794
    cases e794
    replace p794 := eq_true p794
    replace q794 := eq_true q794
    have q9 : (x3_1 : Int) ≤ ((l0.length : Int) : Int) := od_
    obtain ⟨i09, hi09, _, hsz9, _⟩ := info_parts info48
    have hroom9 : l0.length ≤ c0 := (V_reads' HO_0.out).2.1
    have hC9 : Kd.F (Kd.int .u64) _ _ (some ad794) l0.length l0 := (V_at (base := w.heap.size) HO_0.out).2.2
    have hcut9 := cut_to (P := Tryd.prog) 35 48 .i64 Tryd.underlying35 hi09 (some ad794) l0.length c0 x3_1 od_ q9 hroom9
    have hr9 := Kd.F_take (m := (x3_1 : Int).toNat) hC9 (by omega)
    have hy9 : y795.length = (x3_1 : Int).toNat := (by rw [Ny795.out, List.length_take]; omega)
    rw [← Ny795.out] at hr9
    rw [← hy9] at hcut9
    have HO799 := ak (show Kd.V (Kd.int .u64) 48 _ w.heap.size _ (.slice (some ad794) y795.length c0) y795 from V_mk (by omega) hr9)
    have HC799 := ak (show y795.length ≤ c0 from by omega)
    clear hr9 hC9 hroom9 hi09 hsz9
    have KY9 := ak hy9
    clear hy9
    replace q9 := eq_true q9
    go_wp2
    go_ret
    exact ⟨_, by first | rfl | (simp [errW_none, errW_some] <;> rfl) | (simp only [← hji3]; first | rfl | (simp [errW_none, errW_some] <;> rfl)) | (simp [*, errW_none, errW_some] <;> rfl), vU_ HO799.out, bU_ HB.out⟩
   rw [if_neg c2] at H
   have c2b0 : decide (0 < x3_1) = false := decide_eq_false c2
   clear c2
   obtain ⟨c10, H⟩ : (0 ≤ x3_1) ∧ _ := it_ H
   have c10b0 := eq_true c10
   have c10b1 := decide_eq_true c10
   clear c10
   obtain ⟨c11, H⟩ : (x3_1 ≤ (l0.length : Int)) ∧ _ := it_ H
   have c11b0 := eq_true c11
   have c11b1 := decide_eq_true c11
   clear c11
   obtain ⟨y800, hy800⟩ : ∃ y_ : List Int, y_ = (l0.take (x3_1 : Int).toNat) := ⟨_, rfl⟩
   first | rw [Option.bind_some, ← hy800] at H | rw [← hy800] at H
   have Ny800 := ak hy800
   clear hy800
   obtain rfl := Option.some.inj H
   have q12 : (x3_1 : Int) ≤ ((l0.length : Int) : Int) := od_
   obtain ⟨i012, hi012, _, hsz12, _⟩ := info_parts info48
   have hroom12 : l0.length ≤ c0 := (V_reads' HO_0.out).2.1
   have hC12 : Kd.F (Kd.int .u64) _ _ A0 l0.length l0 := (V_at (base := w.heap.size) HO_0.out).2.2
   have hcut12 := cut_to (P := Tryd.prog) 35 48 .i64 Tryd.underlying35 hi012 A0 l0.length c0 x3_1 od_ q12 hroom12
   have hr12 := Kd.F_take (m := (x3_1 : Int).toNat) hC12 (by omega)
   have hy12 : y800.length = (x3_1 : Int).toNat := (by rw [Ny800.out, List.length_take]; omega)
   rw [← Ny800.out] at hr12
   rw [← hy12] at hcut12
   have HO804 := ak (show Kd.V (Kd.int .u64) 48 _ w.heap.size _ (.slice A0 y800.length c0) y800 from V_mk (by omega) hr12)
   have HC804 := ak (show y800.length ≤ c0 from by omega)
   clear hr12 hC12 hroom12 hi012 hsz12
   have KY12 := ak hy12
   clear hy12
   replace q12 := eq_true q12
   go_wp2
   go_ret
   exact ⟨_, eW_, vU_ HO804.out, bU_ HB.out⟩

def poly_Normal.l0 : Nat → Int → List Int → Int → Int → Option (List Int)
 | 0, _, _, _, _ => none
 | k + 1, x0, x5, x17, x18 => if x18 < x17 then (if 0 ≤ x18 then (if x18 < (x5.length : Int) then ((field_Reduce.f x0 (rd x5 x18)).bind fun t812 => (poly_Normal.l0 k x0 (x5.set (x18 : Int).toNat t812) x17 (wrap64 (x18 + 1)))) else (none)) else (none)) else ((poly_trim.f k x5).bind fun t814 => (some t814))
def poly_Normal.f (k : Nat) (a0 : Int) (l1 : List Int) : Option (List Int) := (field_Valid.f a0).bind fun t805 => (if t805 = true then (if 0 ≤ (l1.length : Int) then (if ((l1.length : Int) : Int).toNat ≤ 35184372088832 then ((some (List.replicate ((l1.length : Int) : Int).toNat 0 : List Int)).bind fun y806 => (poly_Normal.l0 k a0 (cpyAt y806 0 l1) (y806.length : Int) 0)) else (none)) else (none)) else (some ([] : List Int)))
set_option maxHeartbeats 8000000 in
set_option maxRecDepth 100000 in
theorem poly_Normal.calls (k : Nat) (a0 : Int) (A1 : Option Addr) (c1 : Nat) (l1 : List Int) (r : List Int) (w : World) (hG : Fld w) (hr1 : Kd.C (Kd.int .u64) w A1 l1.length l1) (hc1 : l1.length ≤ c1) (h : poly_Normal.f k a0 l1 = some r) :
  Calls Tryd.prog 108 #[.int .i64 a0, .slice A1 l1.length c1] w fun e w' => ∃ v0_ : Value, e = .returned (v0_) ∧ Kd.V (Kd.int .u64) 48 w' w.heap.size (fun k_ => (w.heap.size ≤ k_)) v0_ r ∧ Below w.heap.size w w' := by
 have HG := ak hG
 clear hG
 have HR1 := ak hr1
 have HC1 := ak hc1
 clear hr1 hc1
 have HB := ak (Below.refl w.heap.size w)
 have H := h
 clear h
 unfold poly_Normal.f at H
 revert H
 refine bd_ fun t805 A3 H => ?_
 by_cases c4 : t805 = true
 ·subst c4
  rw [if_pos rfl] at H
  obtain ⟨c5, H⟩ : (0 ≤ (l1.length : Int)) ∧ _ := it_ H
  have c5b0 := eq_true c5
  have c5b1 := decide_eq_true c5
  clear c5
  obtain ⟨c6, H⟩ : (((l1.length : Int) : Int).toNat ≤ 35184372088832) ∧ _ := it_ H
  have c6b0 := eq_true c6
  have c6b1 := decide_eq_true c6
  clear c6
  obtain ⟨y806, hy806⟩ : ∃ y_ : List Int, y_ = (List.replicate ((l1.length : Int) : Int).toNat 0) := ⟨_, rfl⟩
  first | rw [Option.bind_some, ← hy806] at H | rw [← hy806] at H
  have Ny806 := ak hy806
  clear hy806
  obtain ⟨y809, hy809⟩ : ∃ y_ : List Int, y_ = (cpyAt y806 0 l1) := ⟨_, rfl⟩
  first | rw [Option.bind_some, ← hy809] at H | rw [← hy809] at H
  have Ny809 := ak hy809
  clear hy809
  have H' := ak H
  clear H
  go_enter Tryd.func108, Tryd.ntmps108
  go_wp2_with (first | ((with_reducible refine gate_callee (f := 43) rfl ?_); refine gl_ (some 8) Tryd.func43 #[.int .i64 a0] ?_; (with_reducible refine (field_Valid.calls a0 true _ A3.out).mono ?_); rintro e w' ⟨rfl, ⟨nd, rfl⟩⟩; refine ⟨_, rfl, ?_⟩) | ((with_reducible refine gate_dst (N := 12) rfl ?_); refine R_make (Kd.int .u64) _ 48 rfl (N := 12) rfl 35 _ _ rfl (l1.length : Int) ?hx ?hy Tryd.underlying35 (.int .u64 0) 8 info48 rfl (by decide) (by omega) 0 (ok := fun _ => True) (okp := fun _ => True) rfl (fun _ hk => hk) trivial od_ (Nat.le_trans (Nat.mul_le_mul_right _ (od_ : (l1.length : Int).toNat ≤ 35184372088832)) (by omega)) (Below.refl _ _) (Nat.le_refl _) ?_; (case hx => first | rfl); (case hy => first | rfl); intro v807 w7 ho8 hb hg_ hnew_; clear hg_ hnew_; (first | rw [← Ny806.out] at ho8 | (simp only [Int.reduceToNat] at ho8; rw [← Ny806.out] at ho8)); refine nx2_ (R_lower (R_newM (M := fun k_ => (w.heap.size ≤ k_)) ho8 (below_size (bU_ HB.out)) (fun k_ h_ => h_)) (below_size (bU_ HB.out))) (below_step (bU_ HB.out) hb) ?_; clear HB; intro HO808 HB; clear hb ho8; obtain ⟨Ao10, co10, eo10⟩ := R_slice HO808.out; subst eo10) | ((with_reducible refine gate_builtin (b := .copy) (xs := #[.tmp 13, .tmp 14]) rfl ?_); skip; refine copy_own_ .u64 (w0 := w) w.heap.size rfl (.tmp 13) (.tmp 14) 35 35 48 rfl Tryd.underlying35 (show (Tryd.prog.info? 48).map (·.size) = some 1 by kernel_rfl) (.slice Ao10 y806.length co10) y806 l1 _ _ _ (fun k_ => (w.heap.size ≤ k_)) rfl rfl ?aO ?aR (fun _ _ h => h) ?aF ?aB ?aS ?_; (case aR => exact cU_ (C_below HR1.out HB.out)); (case aB => exact (bU_ HB.out)); (case aF => exact (fun k_ hk => (Nat.le_trans (below_size (bU_ HB.out)) hk))); (case aO => exact (R_mono (rU_ HO808.out) (fun _ hk => hk.1))); (case aS => exact (below_size (bU_ HB.out))); intro w9 ho hb hg hat; rw [← Ny809.out] at ho; refine nx2_ (hb) (ho) ?_; clear HB HO808; intro HB HO810; clear ho hb hg hat))
  go_loopg [18] k (fun kq v18 w' => ∃ (x5_1 : List Int) (x18_1 : Int), v18 = .int .i64 x18_1 ∧ Aside0 (poly_Normal.l0 kq a0 x5_1 (y806.length : Int) x18_1 = some r) ∧ Aside0 (kq ≤ k) ∧ Aside0 (Kd.R (Kd.int .u64) 48 w' w.heap.size (fun k_ => (w.heap.size ≤ k_)) (.slice Ao10 y806.length co10) x5_1) ∧ Aside0 (Below w.heap.size w w'))
  case atStart => exact ⟨(y809), (0), gb_, H', ⟨Nat.le_refl _⟩, ⟨rU_ HO810.out⟩, ⟨bU_ HB.out⟩⟩
  case round =>
   clear H'
   (try clear c1); (try clear p2); (try clear c4); (try clear c5); (try clear c5b0); (try clear c5b1); (try clear c6); (try clear c6b0); (try clear c6b1); (try clear c10)
   obtain ⟨x5_1, x18_1, rfl, HA, HK1, HO_5, HB⟩ := hrel
   have hl5_1 := (R_reads' HO_5.out).1
   rw [hl5_1] at HO_5
   (try simp only [hl5_1])
   cases gk with
   | zero => exact absurd HA.out (by simp [poly_Normal.l0])
   | succ k1 =>
    have H := HA.out
    clear HA
    simp only [poly_Normal.l0] at H
    by_cases c11 : x18_1 < (y806.length : Int)
    ·rw [if_pos c11] at H
     have c11b0 := decide_eq_true c11
     (try (have c11b0r0 := c11b0; simp only [hl5_1] at c11b0r0))
     clear c11
     obtain ⟨c12, H⟩ : (0 ≤ x18_1) ∧ _ := it_ H
     have c12b0 := decide_eq_true c12
     clear c12
     obtain ⟨c13, H⟩ : (x18_1 < (x5_1.length : Int)) ∧ _ := it_ H
     have c13b0 := decide_eq_true c13
     clear c13
     revert H
     refine bd_ fun t812 A14 H => ?_
     obtain ⟨y813, hy813⟩ : ∃ y_ : List Int, y_ = (x5_1.set (x18_1 : Int).toNat t812) := ⟨_, rfl⟩
     first | rw [Option.bind_some, ← hy813] at H | rw [← hy813] at H
     have Ny813 := ak hy813
     clear hy813
     have H' := ak H
     clear H
     have pfr16 : 0 ≤ (x18_1 : Int) := od_
     have qfr16 : (x18_1 : Int) < ((x5_1.length : Int) : Int) := od_
     obtain ⟨gofr16, cofr16, eofr16, gbfr16, glfr16, clfr16, HGfr16⟩ := Kd.R_form HO_5.out (by omega)
     (first | cases eofr16 | (injection eofr16 with ea_ en_ ec_; (first | subst ea_ | (injection ea_ with ea_; subst ea_)); subst ec_; clear en_))
     have GBfr16 := ak gbfr16
     have GGfr16 := ak HGfr16
     clear gbfr16 glfr16 HGfr16
     clear pfr16 qfr16
     have p811 : 0 ≤ (x18_1 : Int) := od_
     have q811 : x18_1 < (x5_1.length : Int) := od_
     obtain ⟨ad811, e811, hx811_0⟩ := Kd.at_int (R_reads' HO_5.out).2.2 x18_1 p811 q811
     obtain rfl : (⟨gofr16, 0, none⟩ : Addr) = ad811 := (by injection e811)
     (first | simp only [add_plain] at hx811_0 | simp only [add_at] at hx811_0 | simp only [Addr.add, Nat.zero_add] at hx811_0 | skip)
     replace p811 := eq_true p811
     replace q811 := eq_true q811
     go_wp2_with (first | ((with_reducible refine gate_callee (f := 32) rfl ?_); refine gl_ (some 28) Tryd.func32 #[.int .i64 a0, .int .u64 (rd x5_1 x18_1)] ?_; (with_reducible refine (field_Reduce.calls a0 (rd x5_1 x18_1) t812 _ ?side1 A14.out).mono ?_); (case side1 => exact fU_ HG.out HB.out); rintro e w17 ⟨rfl, hb⟩; refine ⟨_, rfl, ?_⟩; refine nx2_ (R_below (rU_ HO_5.out) hb) (below_step (bU_ HB.out) hb) ?_; clear HO_5 HB; intro HO_5 HB; clear hb; have p15 : 0 ≤ (x18_1 : Int) := od_; have q15 : (x18_1 : Int) < ((x5_1.length : Int) : Int) := od_; obtain ⟨hx15_0, hf15_0⟩ := Kd.R_celln 0 HO_5.out (x18_1 : Int) p15 q15; replace p15 := eq_true p15; replace q15 := eq_true q15; obtain ⟨hy18_, hz18_⟩ := Kd.R_celln 0 HO_5.out (x18_1 : Int) od_ od_; have HP18 := Kd.R_putg HO_5.out (x18_1 : Int) t812) | ((with_reducible refine gate_store (t := 48) (p := 29) rfl ?_); refine store_event (t := 48) (p := 29) (v := ?vo_w19) (w1 := (w17.setCell ⟨gofr16, (x18_1 : Int).toNat, none⟩ (.int .u64 t812))) ?hg ?ho ?hn ?hr ?_; (case ho => rfl); (case hg => rfl); (case hn => rfl); (case hr => first | (go_simp; done) | (go_simp; rfl)); intro w19 hw; have hg : w17.grownBy w19 (some gofr16) := (by rw [hw]; exact HP18.2); have hp_ : Kd.R (Kd.int .u64) 48 w19 w.heap.size (fun k_ => (w.heap.size ≤ k_)) (.slice (some ⟨gofr16, 0, none⟩) x5_1.length co10) y813 := (by rw [hw, Ny813.out]; exact HP18.1); clear HP18; refine nx2_ (hp_) ((by rw [hw]; exact below_set (HB.out) GBfr16.out : Below w.heap.size w w19)) ?_; clear HO_5 HB; intro HO_5 HB; clear hg hw hp_))
     (try simp only [← hl5_1])
     go_roundg k1
     case measure => have := HK1.out; omega
     case rel => exact ⟨(y813), (wrap64 (x18_1 + 1)), gb_, H', ⟨by have := HK1.out; omega⟩, ⟨by (try simp only [hl5_1]); (with_reducible repeat (first | apply Kd.R_alloc | apply Kd.R_drewN | apply R_drew)); exact HO_5.out⟩, ⟨bU_ HB.out⟩⟩
    rw [if_neg c11] at H
    have c11b0 := decide_eq_false c11
    (try (have c11b0r0 := c11b0; simp only [hl5_1] at c11b0r0))
    clear c11
    revert H
    refine bd_ fun t814 A20 H => ?_
    obtain rfl := Option.some.inj H
    go_wp2_with (first | ((with_reducible refine gate_callee (f := 109) rfl ?_); refine gl_ (some 32) Tryd.func109 #[.slice Ao10 x5_1.length co10] ?_; (with_reducible refine (poly_trim.calls k1 (fun k_ => some k_ = (.slice Ao10 x5_1.length co10 : Value).ownBlock) _ _ x5_1 t814 _ ?side1 A20.out).mono ?_); (case side1 => exact R_V (R_tight rfl (HO_5.out))); rintro e w21 ⟨v815, rfl, ho0, hb⟩; refine ⟨_, rfl, ?_⟩; refine nx3_ (R_below (rU_ HO_5.out) hb) (V_lower (V_mono (ok' := fun k_ => (w.heap.size ≤ k_)) ho0 (fun k_ hk_ => Or.elim hk_ (fun hs_ => ((HO_5.out).1 k_ hs_.symm)) (fun hn_ => (Nat.le_trans (below_size (bU_ HB.out)) hn_)))) (below_size (bU_ HB.out))) (below_step (bU_ HB.out) hb) ?_; clear HO_5 HB; intro HO_5 HO816 HB; clear hb ho0))
    go_ret
    exact ⟨_, eW_, vU_ HO816.out, bU_ HB.out⟩
 replace c4 := Bool.eq_false_iff.mpr c4
 subst c4
 rw [if_neg (show ¬ (false = true) by decide)] at H
 obtain rfl := Option.some.inj H
 go_enter Tryd.func108, Tryd.ntmps108
 go_wp2_with (first | ((with_reducible refine gate_callee (f := 43) rfl ?_); refine gl_ (some 8) Tryd.func43 #[.int .i64 a0] ?_; (with_reducible refine (field_Valid.calls a0 false _ A3.out).mono ?_); rintro e w' ⟨rfl, ⟨nd, rfl⟩⟩; refine ⟨_, rfl, ?_⟩))
 go_ret
 exact ⟨_, eW_, Kd.V_nil _ _ _ _ _, bU_ HB.out⟩

def poly_Add_yes.l0 : Nat → Int → List Int → List Int → Int → Int → Option (List Int)
 | 0, _, _, _, _, _ => none
 | k + 1, x0, x7, x23, x24, x25 => if x25 < x24 then (if 0 ≤ x25 then (if x25 < (x23.length : Int) then (if x25 < (x7.length : Int) then ((field_Add.f x0 (rd x7 x25) (rd x23 x25)).bind fun t824 => (poly_Add_yes.l0 k x0 (x7.set (x25 : Int).toNat t824) x23 x24 (wrap64 (x25 + 1)))) else (none)) else (none)) else (none)) else ((poly_Normal.f k x0 x7).bind fun t826 => (some t826))
def poly_Add_yes.f (k : Nat) (a0 : Int) (l1 : List Int) (l2 : List Int) : Option (List Int) := if 0 ≤ (l2.length : Int) then (if ((l2.length : Int) : Int).toNat ≤ 35184372088832 then (poly_Add_yes.l0 k a0 (cpyAt (List.replicate ((l2.length : Int) : Int).toNat 0) 0 l2) l1 (l1.length : Int) 0) else (none)) else (none)
set_option maxHeartbeats 8000000 in
set_option maxRecDepth 100000 in
theorem poly_Add_yes.calls (k : Nat) (a0 : Int) (A1 : Option Addr) (c1 : Nat) (l1 : List Int) (A2 : Option Addr) (c2 : Nat) (l2 : List Int) (r : List Int) (w : World) (hX : (l1.length : Int) < (l2.length : Int)) (hG : Fld w) (hr1 : Kd.C (Kd.int .u64) w A1 l1.length l1) (hc1 : l1.length ≤ c1) (hr2 : Kd.C (Kd.int .u64) w A2 l2.length l2) (hc2 : l2.length ≤ c2) (h : poly_Add_yes.f k a0 l1 l2 = some r) :
  Calls Tryd.prog 61 #[.int .i64 a0, .slice A1 l1.length c1, .slice A2 l2.length c2] w fun e w' => ∃ v0_ : Value, e = .returned (v0_) ∧ Kd.V (Kd.int .u64) 48 w' w.heap.size (fun k_ => (w.heap.size ≤ k_)) v0_ r ∧ Below w.heap.size w w' := by
 have HG := ak hG
 clear hG
 have hXb0 : decide ((l1.length : Int) < (l2.length : Int)) = true := decide_eq_true hX
 have hXb1 : decide (l1.length < l2.length) = true := decide_eq_true (Int.ofNat_lt.mp hX)
 clear hX
 have HR1 := ak hr1
 have HC1 := ak hc1
 clear hr1 hc1
 have HR2 := ak hr2
 have HC2 := ak hc2
 clear hr2 hc2
 have HB := ak (Below.refl w.heap.size w)
 have H := h
 clear h
 unfold poly_Add_yes.f at H
 obtain ⟨c4, H⟩ : (0 ≤ (l2.length : Int)) ∧ _ := it_ H
 have c4b0 := eq_true c4
 have c4b1 := decide_eq_true c4
 clear c4
 obtain ⟨c5, H⟩ : (((l2.length : Int) : Int).toNat ≤ 35184372088832) ∧ _ := it_ H
 have c5b0 := eq_true c5
 have c5b1 := decide_eq_true c5
 clear c5
 obtain ⟨y817, hy817⟩ : ∃ y_ : List Int, y_ = (List.replicate ((l2.length : Int) : Int).toNat 0) := ⟨_, rfl⟩
 first | rw [Option.bind_some, ← hy817] at H | rw [← hy817] at H
 have Ny817 := ak hy817
 clear hy817
 obtain ⟨y820, hy820⟩ : ∃ y_ : List Int, y_ = (cpyAt y817 0 l2) := ⟨_, rfl⟩
 first | rw [Option.bind_some, ← hy820] at H | rw [← hy820] at H
 have Ny820 := ak hy820
 clear hy820
 have H' := ak H
 clear H
 go_enter Tryd.func61, Tryd.ntmps61
 go_wp2_with (first | ((with_reducible refine gate_dst (N := 19) rfl ?_); refine R_make (Kd.int .u64) _ 48 rfl (N := 19) rfl 35 _ _ rfl (l2.length : Int) ?hx ?hy Tryd.underlying35 (.int .u64 0) 8 info48 rfl (by decide) (by omega) 0 (ok := fun _ => True) (okp := fun _ => True) rfl (fun _ hk => hk) trivial od_ (Nat.le_trans (Nat.mul_le_mul_right _ (od_ : (l2.length : Int).toNat ≤ 35184372088832)) (by omega)) (Below.refl _ _) (Nat.le_refl _) ?_; (case hx => first | rfl); (case hy => first | rfl); intro v818 w6 ho7 hb hg_ hnew_; clear hg_ hnew_; (first | rw [← Ny817.out] at ho7 | (simp only [Int.reduceToNat] at ho7; rw [← Ny817.out] at ho7)); refine nx2_ (R_lower (R_newM (M := fun k_ => (w.heap.size ≤ k_)) ho7 (below_size (bU_ HB.out)) (fun k_ h_ => h_)) (below_size (bU_ HB.out))) (below_step (bU_ HB.out) hb) ?_; clear HB; intro HO819 HB; clear hb ho7; obtain ⟨Ao9, co9, eo9⟩ := R_slice HO819.out; subst eo9) | ((with_reducible refine gate_builtin (b := .copy) (xs := #[.tmp 20, .tmp 21]) rfl ?_); skip; refine copy_own_ .u64 (w0 := w) w.heap.size rfl (.tmp 20) (.tmp 21) 35 35 48 rfl Tryd.underlying35 (show (Tryd.prog.info? 48).map (·.size) = some 1 by kernel_rfl) (.slice Ao9 y817.length co9) y817 l2 _ _ _ (fun k_ => (w.heap.size ≤ k_)) rfl rfl ?aO ?aR (fun _ _ h => h) ?aF ?aB ?aS ?_; (case aR => exact cU_ (C_below HR2.out HB.out)); (case aB => exact (bU_ HB.out)); (case aF => exact (fun k_ hk => (Nat.le_trans (below_size (bU_ HB.out)) hk))); (case aO => exact (R_mono (rU_ HO819.out) (fun _ hk => hk.1))); (case aS => exact (below_size (bU_ HB.out))); intro w8 ho hb hg hat; rw [← Ny820.out] at ho; refine nx2_ (hb) (ho) ?_; clear HB HO819; intro HB HO821; clear ho hb hg hat))
 go_loopg [25] k (fun kq v25 w' => ∃ (x7_1 : List Int) (x25_1 : Int), v25 = .int .i64 x25_1 ∧ Aside0 (poly_Add_yes.l0 kq a0 x7_1 l1 (l1.length : Int) x25_1 = some r) ∧ Aside0 (kq ≤ k) ∧ Aside0 (Kd.R (Kd.int .u64) 48 w' w.heap.size (fun k_ => (w.heap.size ≤ k_)) (.slice Ao9 y817.length co9) x7_1) ∧ Aside0 (Below w.heap.size w w'))
 case atStart => exact ⟨(y820), (0), gb_, H', ⟨Nat.le_refl _⟩, ⟨rU_ HO821.out⟩, ⟨bU_ HB.out⟩⟩
 case round =>
  clear H'
  (try clear c1); (try clear c2); (try clear p2); (try clear c4); (try clear c4b0); (try clear c4b1); (try clear c5); (try clear c5b0); (try clear c5b1); (try clear c6)
  obtain ⟨x7_1, x25_1, rfl, HA, HK1, HO_7, HB⟩ := hrel
  have hl7_1 := (R_reads' HO_7.out).1
  rw [hl7_1] at HO_7
  (try simp only [hl7_1])
  cases gk with
  | zero => exact absurd HA.out (by simp [poly_Add_yes.l0])
  | succ k1 =>
   have H := HA.out
   clear HA
   simp only [poly_Add_yes.l0] at H
   by_cases c10 : x25_1 < (l1.length : Int)
   ·rw [if_pos c10] at H
    have c10b0 := decide_eq_true c10
    clear c10
    obtain ⟨c11, H⟩ : (0 ≤ x25_1) ∧ _ := it_ H
    have c11b0 := decide_eq_true c11
    clear c11
    obtain ⟨c12, H⟩ : (x25_1 < (l1.length : Int)) ∧ _ := it_ H
    have c12b0 := decide_eq_true c12
    clear c12
    obtain ⟨c13, H⟩ : (x25_1 < (x7_1.length : Int)) ∧ _ := it_ H
    have c13b0 := decide_eq_true c13
    clear c13
    revert H
    refine bd_ fun t824 A14 H => ?_
    obtain ⟨y825, hy825⟩ : ∃ y_ : List Int, y_ = (x7_1.set (x25_1 : Int).toNat t824) := ⟨_, rfl⟩
    first | rw [Option.bind_some, ← hy825] at H | rw [← hy825] at H
    have Ny825 := ak hy825
    clear hy825
    have H' := ak H
    clear H
    have p822 : 0 ≤ (x25_1 : Int) := od_
    have q822 : x25_1 < (l1.length : Int) := od_
    obtain ⟨ad822, e822, hx822_0⟩ := Kd.at_int HR1.out x25_1 p822 q822
    cases e822
    replace hx822_0 := (HB.out.cell (World.block_lt_of_cell? w _ hx822_0)).trans hx822_0
    replace p822 := eq_true p822
    replace q822 := eq_true q822
    have pfr16 : 0 ≤ (x25_1 : Int) := od_
    have qfr16 : (x25_1 : Int) < ((x7_1.length : Int) : Int) := od_
    obtain ⟨gofr16, cofr16, eofr16, gbfr16, glfr16, clfr16, HGfr16⟩ := Kd.R_form HO_7.out (by omega)
    (first | cases eofr16 | (injection eofr16 with ea_ en_ ec_; (first | subst ea_ | (injection ea_ with ea_; subst ea_)); subst ec_; clear en_))
    have GBfr16 := ak gbfr16
    have GGfr16 := ak HGfr16
    clear gbfr16 glfr16 HGfr16
    clear pfr16 qfr16
    have p823 : 0 ≤ (x25_1 : Int) := od_
    have q823 : x25_1 < (x7_1.length : Int) := od_
    obtain ⟨ad823, e823, hx823_0⟩ := Kd.at_int (R_reads' HO_7.out).2.2 x25_1 p823 q823
    obtain rfl : (⟨gofr16, 0, none⟩ : Addr) = ad823 := (by injection e823)
    (first | simp only [add_plain] at hx823_0 | simp only [add_at] at hx823_0 | simp only [Addr.add, Nat.zero_add] at hx823_0 | skip)
    replace p823 := eq_true p823
    replace q823 := eq_true q823
    go_wp2_with (first | ((with_reducible refine gate_callee (f := 25) rfl ?_); refine gl_ (some 38) Tryd.func25 #[.int .i64 a0, .int .u64 (rd x7_1 x25_1), .int .u64 (rd l1 x25_1)] ?_; (with_reducible refine (field_Add.calls a0 (rd x7_1 x25_1) (rd l1 x25_1) t824 _ ?side1 A14.out).mono ?_); (case side1 => exact fU_ HG.out HB.out); rintro e w17 ⟨rfl, hb⟩; refine ⟨_, rfl, ?_⟩; refine nx2_ (R_below (rU_ HO_7.out) hb) (below_step (bU_ HB.out) hb) ?_; clear HO_7 HB; intro HO_7 HB; clear hb; have p15 : 0 ≤ (x25_1 : Int) := od_; have q15 : (x25_1 : Int) < ((x7_1.length : Int) : Int) := od_; obtain ⟨hx15_0, hf15_0⟩ := Kd.R_celln 0 HO_7.out (x25_1 : Int) p15 q15; replace p15 := eq_true p15; replace q15 := eq_true q15; obtain ⟨hy18_, hz18_⟩ := Kd.R_celln 0 HO_7.out (x25_1 : Int) od_ od_; have HP18 := Kd.R_putg HO_7.out (x25_1 : Int) t824) | ((with_reducible refine gate_store (t := 48) (p := 39) rfl ?_); refine store_event (t := 48) (p := 39) (v := ?vo_w19) (w1 := (w17.setCell ⟨gofr16, (x25_1 : Int).toNat, none⟩ (.int .u64 t824))) ?hg ?ho ?hn ?hr ?_; (case ho => rfl); (case hg => rfl); (case hn => rfl); (case hr => first | (go_simp; done) | (go_simp; rfl)); intro w19 hw; have hg : w17.grownBy w19 (some gofr16) := (by rw [hw]; exact HP18.2); have hp_ : Kd.R (Kd.int .u64) 48 w19 w.heap.size (fun k_ => (w.heap.size ≤ k_)) (.slice (some ⟨gofr16, 0, none⟩) x7_1.length co9) y825 := (by rw [hw, Ny825.out]; exact HP18.1); clear HP18; refine nx2_ (hp_) ((by rw [hw]; exact below_set (HB.out) GBfr16.out : Below w.heap.size w w19)) ?_; clear HO_7 HB; intro HO_7 HB; clear hg hw hp_))
    (try simp only [← hl7_1])
    go_roundg k1
    case measure => have := HK1.out; omega
    case rel => exact ⟨(y825), (wrap64 (x25_1 + 1)), gb_, H', ⟨by have := HK1.out; omega⟩, ⟨by (try simp only [hl7_1]); (with_reducible repeat (first | apply Kd.R_alloc | apply Kd.R_drewN | apply R_drew)); exact HO_7.out⟩, ⟨bU_ HB.out⟩⟩
   rw [if_neg c10] at H
   have c10b0 := decide_eq_false c10
   clear c10
   revert H
   refine bd_ fun t826 A20 H => ?_
   obtain rfl := Option.some.inj H
   go_wp2_with (first | ((with_reducible refine gate_callee (f := 108) rfl ?_); refine gl_ (some 43) Tryd.func108 #[.int .i64 a0, .slice Ao9 x7_1.length co9] ?_; (with_reducible refine (poly_Normal.calls k1 a0 _ _ x7_1 t826 _ ?side1 ?side2 ?side3 A20.out).mono ?_); (case side1 => exact fU_ HG.out HB.out); (case side2 => exact cU_ ((R_reads' HO_7.out).2.2)); (case side3 => exact (R_reads' HO_7.out).2.1); rintro e w21 ⟨v827, rfl, ho0, hb⟩; refine ⟨_, rfl, ?_⟩; refine nx3_ (R_below (rU_ HO_7.out) hb) (V_lower (V_mono (ok' := fun k_ => (w.heap.size ≤ k_) ∧ some k_ ≠ (.slice Ao9 x7_1.length co9 : Value).ownBlock) ho0 (fun k_ hk_ => ⟨(Nat.le_trans (below_size (bU_ HB.out)) hk_), (fresh' (R_lt (rU_ HO_7.out)) k_ hk_)⟩)) (below_size (bU_ HB.out))) (below_step (bU_ HB.out) hb) ?_; clear HO_7 HB; intro HO_7 HO828 HB; clear hb ho0))
   go_ret
   exact ⟨_, eW_, by (with_reducible repeat (first | apply Kd.V_alloc | apply Kd.V_drewN | apply V_drew)); exact V_mono HO828.out (fun _ hk => hk.1), bU_ HB.out⟩

def poly_Add_no.l0 : Nat → Int → List Int → List Int → Int → Int → Option (List Int)
 | 0, _, _, _, _, _ => none
 | k + 1, x0, x7, x23, x24, x25 => if x25 < x24 then (if 0 ≤ x25 then (if x25 < (x23.length : Int) then (if x25 < (x7.length : Int) then ((field_Add.f x0 (rd x7 x25) (rd x23 x25)).bind fun t836 => (poly_Add_no.l0 k x0 (x7.set (x25 : Int).toNat t836) x23 x24 (wrap64 (x25 + 1)))) else (none)) else (none)) else (none)) else ((poly_Normal.f k x0 x7).bind fun t838 => (some t838))
def poly_Add_no.f (k : Nat) (a0 : Int) (l1 : List Int) (l2 : List Int) : Option (List Int) := if 0 ≤ (l1.length : Int) then (if ((l1.length : Int) : Int).toNat ≤ 35184372088832 then (poly_Add_no.l0 k a0 (cpyAt (List.replicate ((l1.length : Int) : Int).toNat 0) 0 l1) l2 (l2.length : Int) 0) else (none)) else (none)
set_option maxHeartbeats 8000000 in
set_option maxRecDepth 100000 in
theorem poly_Add_no.calls (k : Nat) (a0 : Int) (A1 : Option Addr) (c1 : Nat) (l1 : List Int) (A2 : Option Addr) (c2 : Nat) (l2 : List Int) (r : List Int) (w : World) (hX : ¬ ((l1.length : Int) < (l2.length : Int))) (hG : Fld w) (hr1 : Kd.C (Kd.int .u64) w A1 l1.length l1) (hc1 : l1.length ≤ c1) (hr2 : Kd.C (Kd.int .u64) w A2 l2.length l2) (hc2 : l2.length ≤ c2) (h : poly_Add_no.f k a0 l1 l2 = some r) :
  Calls Tryd.prog 61 #[.int .i64 a0, .slice A1 l1.length c1, .slice A2 l2.length c2] w fun e w' => ∃ v0_ : Value, e = .returned (v0_) ∧ Kd.V (Kd.int .u64) 48 w' w.heap.size (fun k_ => (w.heap.size ≤ k_)) v0_ r ∧ Below w.heap.size w w' := by
 have HG := ak hG
 clear hG
 have hXb0 : decide ((l1.length : Int) < (l2.length : Int)) = false := decide_eq_false hX
 have hXb1 : decide (l1.length < l2.length) = false := decide_eq_false (fun h => hX (Int.ofNat_lt.mpr h))
 clear hX
 have HR1 := ak hr1
 have HC1 := ak hc1
 clear hr1 hc1
 have HR2 := ak hr2
 have HC2 := ak hc2
 clear hr2 hc2
 have HB := ak (Below.refl w.heap.size w)
 have H := h
 clear h
 unfold poly_Add_no.f at H
 obtain ⟨c4, H⟩ : (0 ≤ (l1.length : Int)) ∧ _ := it_ H
 have c4b0 := eq_true c4
 have c4b1 := decide_eq_true c4
 clear c4
 obtain ⟨c5, H⟩ : (((l1.length : Int) : Int).toNat ≤ 35184372088832) ∧ _ := it_ H
 have c5b0 := eq_true c5
 have c5b1 := decide_eq_true c5
 clear c5
 obtain ⟨y829, hy829⟩ : ∃ y_ : List Int, y_ = (List.replicate ((l1.length : Int) : Int).toNat 0) := ⟨_, rfl⟩
 first | rw [Option.bind_some, ← hy829] at H | rw [← hy829] at H
 have Ny829 := ak hy829
 clear hy829
 obtain ⟨y832, hy832⟩ : ∃ y_ : List Int, y_ = (cpyAt y829 0 l1) := ⟨_, rfl⟩
 first | rw [Option.bind_some, ← hy832] at H | rw [← hy832] at H
 have Ny832 := ak hy832
 clear hy832
 have H' := ak H
 clear H
 go_enter Tryd.func61, Tryd.ntmps61
 go_wp2_with (first | ((with_reducible refine gate_dst (N := 19) rfl ?_); refine R_make (Kd.int .u64) _ 48 rfl (N := 19) rfl 35 _ _ rfl (l1.length : Int) ?hx ?hy Tryd.underlying35 (.int .u64 0) 8 info48 rfl (by decide) (by omega) 0 (ok := fun _ => True) (okp := fun _ => True) rfl (fun _ hk => hk) trivial od_ (Nat.le_trans (Nat.mul_le_mul_right _ (od_ : (l1.length : Int).toNat ≤ 35184372088832)) (by omega)) (Below.refl _ _) (Nat.le_refl _) ?_; (case hx => first | rfl); (case hy => first | rfl); intro v830 w6 ho7 hb hg_ hnew_; clear hg_ hnew_; (first | rw [← Ny829.out] at ho7 | (simp only [Int.reduceToNat] at ho7; rw [← Ny829.out] at ho7)); refine nx2_ (R_lower (R_newM (M := fun k_ => (w.heap.size ≤ k_)) ho7 (below_size (bU_ HB.out)) (fun k_ h_ => h_)) (below_size (bU_ HB.out))) (below_step (bU_ HB.out) hb) ?_; clear HB; intro HO831 HB; clear hb ho7; obtain ⟨Ao9, co9, eo9⟩ := R_slice HO831.out; subst eo9) | ((with_reducible refine gate_builtin (b := .copy) (xs := #[.tmp 20, .tmp 21]) rfl ?_); skip; refine copy_own_ .u64 (w0 := w) w.heap.size rfl (.tmp 20) (.tmp 21) 35 35 48 rfl Tryd.underlying35 (show (Tryd.prog.info? 48).map (·.size) = some 1 by kernel_rfl) (.slice Ao9 y829.length co9) y829 l1 _ _ _ (fun k_ => (w.heap.size ≤ k_)) rfl rfl ?aO ?aR (fun _ _ h => h) ?aF ?aB ?aS ?_; (case aR => exact cU_ (C_below HR1.out HB.out)); (case aB => exact (bU_ HB.out)); (case aF => exact (fun k_ hk => (Nat.le_trans (below_size (bU_ HB.out)) hk))); (case aO => exact (R_mono (rU_ HO831.out) (fun _ hk => hk.1))); (case aS => exact (below_size (bU_ HB.out))); intro w8 ho hb hg hat; rw [← Ny832.out] at ho; refine nx2_ (hb) (ho) ?_; clear HB HO831; intro HB HO833; clear ho hb hg hat))
 go_loopg [25] k (fun kq v25 w' => ∃ (x7_1 : List Int) (x25_1 : Int), v25 = .int .i64 x25_1 ∧ Aside0 (poly_Add_no.l0 kq a0 x7_1 l2 (l2.length : Int) x25_1 = some r) ∧ Aside0 (kq ≤ k) ∧ Aside0 (Kd.R (Kd.int .u64) 48 w' w.heap.size (fun k_ => (w.heap.size ≤ k_)) (.slice Ao9 y829.length co9) x7_1) ∧ Aside0 (Below w.heap.size w w'))
 case atStart => exact ⟨(y832), (0), gb_, H', ⟨Nat.le_refl _⟩, ⟨rU_ HO833.out⟩, ⟨bU_ HB.out⟩⟩
 case round =>
  clear H'
  (try clear c1); (try clear c2); (try clear p2); (try clear c4); (try clear c4b0); (try clear c4b1); (try clear c5); (try clear c5b0); (try clear c5b1); (try clear c6)
  obtain ⟨x7_1, x25_1, rfl, HA, HK1, HO_7, HB⟩ := hrel
  have hl7_1 := (R_reads' HO_7.out).1
  rw [hl7_1] at HO_7
  (try simp only [hl7_1])
  cases gk with
  | zero => exact absurd HA.out (by simp [poly_Add_no.l0])
  | succ k1 =>
   have H := HA.out
   clear HA
   simp only [poly_Add_no.l0] at H
   by_cases c10 : x25_1 < (l2.length : Int)
   ·rw [if_pos c10] at H
    have c10b0 := decide_eq_true c10
    clear c10
    obtain ⟨c11, H⟩ : (0 ≤ x25_1) ∧ _ := it_ H
    have c11b0 := decide_eq_true c11
    clear c11
    obtain ⟨c12, H⟩ : (x25_1 < (l2.length : Int)) ∧ _ := it_ H
    have c12b0 := decide_eq_true c12
    clear c12
    obtain ⟨c13, H⟩ : (x25_1 < (x7_1.length : Int)) ∧ _ := it_ H
    have c13b0 := decide_eq_true c13
    clear c13
    revert H
    refine bd_ fun t836 A14 H => ?_
    obtain ⟨y837, hy837⟩ : ∃ y_ : List Int, y_ = (x7_1.set (x25_1 : Int).toNat t836) := ⟨_, rfl⟩
    first | rw [Option.bind_some, ← hy837] at H | rw [← hy837] at H
    have Ny837 := ak hy837
    clear hy837
    have H' := ak H
    clear H
    have p834 : 0 ≤ (x25_1 : Int) := od_
    have q834 : x25_1 < (l2.length : Int) := od_
    obtain ⟨ad834, e834, hx834_0⟩ := Kd.at_int HR2.out x25_1 p834 q834
    cases e834
    replace hx834_0 := (HB.out.cell (World.block_lt_of_cell? w _ hx834_0)).trans hx834_0
    replace p834 := eq_true p834
    replace q834 := eq_true q834
    have pfr16 : 0 ≤ (x25_1 : Int) := od_
    have qfr16 : (x25_1 : Int) < ((x7_1.length : Int) : Int) := od_
    obtain ⟨gofr16, cofr16, eofr16, gbfr16, glfr16, clfr16, HGfr16⟩ := Kd.R_form HO_7.out (by omega)
    (first | cases eofr16 | (injection eofr16 with ea_ en_ ec_; (first | subst ea_ | (injection ea_ with ea_; subst ea_)); subst ec_; clear en_))
    have GBfr16 := ak gbfr16
    have GGfr16 := ak HGfr16
    clear gbfr16 glfr16 HGfr16
    clear pfr16 qfr16
    have p835 : 0 ≤ (x25_1 : Int) := od_
    have q835 : x25_1 < (x7_1.length : Int) := od_
    obtain ⟨ad835, e835, hx835_0⟩ := Kd.at_int (R_reads' HO_7.out).2.2 x25_1 p835 q835
    obtain rfl : (⟨gofr16, 0, none⟩ : Addr) = ad835 := (by injection e835)
    (first | simp only [add_plain] at hx835_0 | simp only [add_at] at hx835_0 | simp only [Addr.add, Nat.zero_add] at hx835_0 | skip)
    replace p835 := eq_true p835
    replace q835 := eq_true q835
    go_wp2_with (first | ((with_reducible refine gate_callee (f := 25) rfl ?_); refine gl_ (some 38) Tryd.func25 #[.int .i64 a0, .int .u64 (rd x7_1 x25_1), .int .u64 (rd l2 x25_1)] ?_; (with_reducible refine (field_Add.calls a0 (rd x7_1 x25_1) (rd l2 x25_1) t836 _ ?side1 A14.out).mono ?_); (case side1 => exact fU_ HG.out HB.out); rintro e w17 ⟨rfl, hb⟩; refine ⟨_, rfl, ?_⟩; refine nx2_ (R_below (rU_ HO_7.out) hb) (below_step (bU_ HB.out) hb) ?_; clear HO_7 HB; intro HO_7 HB; clear hb; have p15 : 0 ≤ (x25_1 : Int) := od_; have q15 : (x25_1 : Int) < ((x7_1.length : Int) : Int) := od_; obtain ⟨hx15_0, hf15_0⟩ := Kd.R_celln 0 HO_7.out (x25_1 : Int) p15 q15; replace p15 := eq_true p15; replace q15 := eq_true q15; obtain ⟨hy18_, hz18_⟩ := Kd.R_celln 0 HO_7.out (x25_1 : Int) od_ od_; have HP18 := Kd.R_putg HO_7.out (x25_1 : Int) t836) | ((with_reducible refine gate_store (t := 48) (p := 39) rfl ?_); refine store_event (t := 48) (p := 39) (v := ?vo_w19) (w1 := (w17.setCell ⟨gofr16, (x25_1 : Int).toNat, none⟩ (.int .u64 t836))) ?hg ?ho ?hn ?hr ?_; (case ho => rfl); (case hg => rfl); (case hn => rfl); (case hr => first | (go_simp; done) | (go_simp; rfl)); intro w19 hw; have hg : w17.grownBy w19 (some gofr16) := (by rw [hw]; exact HP18.2); have hp_ : Kd.R (Kd.int .u64) 48 w19 w.heap.size (fun k_ => (w.heap.size ≤ k_)) (.slice (some ⟨gofr16, 0, none⟩) x7_1.length co9) y837 := (by rw [hw, Ny837.out]; exact HP18.1); clear HP18; refine nx2_ (hp_) ((by rw [hw]; exact below_set (HB.out) GBfr16.out : Below w.heap.size w w19)) ?_; clear HO_7 HB; intro HO_7 HB; clear hg hw hp_))
    (try simp only [← hl7_1])
    go_roundg k1
    case measure => have := HK1.out; omega
    case rel => exact ⟨(y837), (wrap64 (x25_1 + 1)), gb_, H', ⟨by have := HK1.out; omega⟩, ⟨by (try simp only [hl7_1]); (with_reducible repeat (first | apply Kd.R_alloc | apply Kd.R_drewN | apply R_drew)); exact HO_7.out⟩, ⟨bU_ HB.out⟩⟩
   rw [if_neg c10] at H
   have c10b0 := decide_eq_false c10
   clear c10
   revert H
   refine bd_ fun t838 A20 H => ?_
   obtain rfl := Option.some.inj H
   go_wp2_with (first | ((with_reducible refine gate_callee (f := 108) rfl ?_); refine gl_ (some 43) Tryd.func108 #[.int .i64 a0, .slice Ao9 x7_1.length co9] ?_; (with_reducible refine (poly_Normal.calls k1 a0 _ _ x7_1 t838 _ ?side1 ?side2 ?side3 A20.out).mono ?_); (case side1 => exact fU_ HG.out HB.out); (case side2 => exact cU_ ((R_reads' HO_7.out).2.2)); (case side3 => exact (R_reads' HO_7.out).2.1); rintro e w21 ⟨v839, rfl, ho0, hb⟩; refine ⟨_, rfl, ?_⟩; refine nx3_ (R_below (rU_ HO_7.out) hb) (V_lower (V_mono (ok' := fun k_ => (w.heap.size ≤ k_) ∧ some k_ ≠ (.slice Ao9 x7_1.length co9 : Value).ownBlock) ho0 (fun k_ hk_ => ⟨(Nat.le_trans (below_size (bU_ HB.out)) hk_), (fresh' (R_lt (rU_ HO_7.out)) k_ hk_)⟩)) (below_size (bU_ HB.out))) (below_step (bU_ HB.out) hb) ?_; clear HO_7 HB; intro HO_7 HO840 HB; clear hb ho0))
   go_ret
   exact ⟨_, eW_, by (with_reducible repeat (first | apply Kd.V_alloc | apply Kd.V_drewN | apply V_drew)); exact V_mono HO840.out (fun _ hk => hk.1), bU_ HB.out⟩

def poly_Add.f (k : Nat) (a0 : Int) (l1 : List Int) (l2 : List Int) : Option (List Int) := if (l1.length : Int) < (l2.length : Int) then poly_Add_yes.f k a0 l1 l2 else poly_Add_no.f k a0 l1 l2
theorem poly_Add.calls (k : Nat) (a0 : Int) (A1 : Option Addr) (c1 : Nat) (l1 : List Int) (A2 : Option Addr) (c2 : Nat) (l2 : List Int) (r : List Int) (w : World) (hG : Fld w) (hr1 : Kd.C (Kd.int .u64) w A1 l1.length l1) (hc1 : l1.length ≤ c1) (hr2 : Kd.C (Kd.int .u64) w A2 l2.length l2) (hc2 : l2.length ≤ c2) (h : poly_Add.f k a0 l1 l2 = some r) :
  Calls Tryd.prog 61 #[.int .i64 a0, .slice A1 l1.length c1, .slice A2 l2.length c2] w fun e w' => ∃ v0_ : Value, e = .returned (v0_) ∧ Kd.V (Kd.int .u64) 48 w' w.heap.size (fun k_ => (w.heap.size ≤ k_)) v0_ r ∧ Below w.heap.size w w' := by
 unfold poly_Add.f at h
 by_cases hX : (l1.length : Int) < (l2.length : Int)
 ·rw [if_pos hX] at h
  exact poly_Add_yes.calls k a0 A1 c1 l1 A2 c2 l2 r w hX hG hr1 hc1 hr2 hc2 h
 rw [if_neg hX] at h
 exact poly_Add_no.calls k a0 A1 c1 l1 A2 c2 l2 r w hX hG hr1 hc1 hr2 hc2 h

def poly_Scale.l0 : Nat → Int → Int → List Int → List Int → Int → Int → Option (List Int)
 | 0, _, _, _, _, _, _ => none
 | k + 1, x0, x2, x7, x13, x14, x15 => if x15 < x14 then (if 0 ≤ x15 then (if x15 < (x13.length : Int) then ((field_Mul.f x0 (rd x13 x15) x2).bind fun t845 => (if x15 < (x7.length : Int) then (poly_Scale.l0 k x0 x2 (x7.set (x15 : Int).toNat t845) x13 x14 (wrap64 (x15 + 1))) else (none))) else (none)) else (none)) else ((poly_trim.f k x7).bind fun t847 => (some t847))
def poly_Scale.f (k : Nat) (a0 : Int) (l1 : List Int) (a2 : Int) : Option (List Int) := if 0 ≤ (l1.length : Int) then (if ((l1.length : Int) : Int).toNat ≤ 35184372088832 then (poly_Scale.l0 k a0 a2 (List.replicate ((l1.length : Int) : Int).toNat 0) l1 (l1.length : Int) 0) else (none)) else (none)
set_option maxHeartbeats 8000000 in
set_option maxRecDepth 100000 in
theorem poly_Scale.calls (k : Nat) (a0 : Int) (A1 : Option Addr) (c1 : Nat) (l1 : List Int) (a2 : Int) (r : List Int) (w : World) (hG : Fld w) (hr1 : Kd.C (Kd.int .u64) w A1 l1.length l1) (hc1 : l1.length ≤ c1) (h : poly_Scale.f k a0 l1 a2 = some r) :
  Calls Tryd.prog 62 #[.int .i64 a0, .slice A1 l1.length c1, .int .u64 a2] w fun e w' => ∃ v0_ : Value, e = .returned (v0_) ∧ Kd.V (Kd.int .u64) 48 w' w.heap.size (fun k_ => (w.heap.size ≤ k_)) v0_ r ∧ Below w.heap.size w w' := by
 have HG := ak hG
 clear hG
 have HR1 := ak hr1
 have HC1 := ak hc1
 clear hr1 hc1
 have HB := ak (Below.refl w.heap.size w)
 have H := h
 clear h
 unfold poly_Scale.f at H
 obtain ⟨c4, H⟩ : (0 ≤ (l1.length : Int)) ∧ _ := it_ H
 have c4b0 := eq_true c4
 have c4b1 := decide_eq_true c4
 clear c4
 obtain ⟨c5, H⟩ : (((l1.length : Int) : Int).toNat ≤ 35184372088832) ∧ _ := it_ H
 have c5b0 := eq_true c5
 have c5b1 := decide_eq_true c5
 clear c5
 obtain ⟨y841, hy841⟩ : ∃ y_ : List Int, y_ = (List.replicate ((l1.length : Int) : Int).toNat 0) := ⟨_, rfl⟩
 first | rw [Option.bind_some, ← hy841] at H | rw [← hy841] at H
 have Ny841 := ak hy841
 clear hy841
 have H' := ak H
 clear H
 go_enter Tryd.func62, Tryd.ntmps62
 go_wp2_with (first | ((with_reducible refine gate_dst (N := 12) rfl ?_); refine R_make (Kd.int .u64) _ 48 rfl (N := 12) rfl 35 _ _ rfl (l1.length : Int) ?hx ?hy Tryd.underlying35 (.int .u64 0) 8 info48 rfl (by decide) (by omega) 0 (ok := fun _ => True) (okp := fun _ => True) rfl (fun _ hk => hk) trivial od_ (Nat.le_trans (Nat.mul_le_mul_right _ (od_ : (l1.length : Int).toNat ≤ 35184372088832)) (by omega)) (Below.refl _ _) (Nat.le_refl _) ?_; (case hx => first | rfl); (case hy => first | rfl); intro v842 w6 ho7 hb hg_ hnew_; clear hg_ hnew_; (first | rw [← Ny841.out] at ho7 | (simp only [Int.reduceToNat] at ho7; rw [← Ny841.out] at ho7)); refine nx2_ (R_lower (R_newM (M := fun k_ => (w.heap.size ≤ k_)) ho7 (below_size (bU_ HB.out)) (fun k_ h_ => h_)) (below_size (bU_ HB.out))) (below_step (bU_ HB.out) hb) ?_; clear HB; intro HO843 HB; clear hb ho7))
 go_loopg [15] k (fun kq v15 w' => ∃ (x7_1 : List Int) (x15_1 : Int), v15 = .int .i64 x15_1 ∧ Aside0 (poly_Scale.l0 kq a0 a2 x7_1 l1 (l1.length : Int) x15_1 = some r) ∧ Aside0 (kq ≤ k) ∧ Aside0 (Kd.R (Kd.int .u64) 48 w' w.heap.size (fun k_ => (w.heap.size ≤ k_)) v842 x7_1) ∧ Aside0 (Below w.heap.size w w'))
 case atStart => exact ⟨(y841), (0), gb_, H', ⟨Nat.le_refl _⟩, ⟨R_mono (rU_ HO843.out) (fun _ hk => hk.1)⟩, ⟨bU_ HB.out⟩⟩
 case round =>
  clear H'
  (try clear c1); (try clear p2); (try clear c4); (try clear c4b0); (try clear c4b1); (try clear c5); (try clear c5b0); (try clear c5b1); (try clear c6)
  obtain ⟨x7_1, x15_1, rfl, HA, HK1, HO_7, HB⟩ := hrel
  cases gk with
  | zero => exact absurd HA.out (by simp [poly_Scale.l0])
  | succ k1 =>
   have H := HA.out
   clear HA
   simp only [poly_Scale.l0] at H
   by_cases c8 : x15_1 < (l1.length : Int)
   ·rw [if_pos c8] at H
    have c8b0 := decide_eq_true c8
    clear c8
    obtain ⟨c9, H⟩ : (0 ≤ x15_1) ∧ _ := it_ H
    have c9b0 := decide_eq_true c9
    clear c9
    obtain ⟨c10, H⟩ : (x15_1 < (l1.length : Int)) ∧ _ := it_ H
    have c10b0 := decide_eq_true c10
    clear c10
    revert H
    refine bd_ fun t845 A11 H => ?_
    obtain ⟨c12, H⟩ : (x15_1 < (x7_1.length : Int)) ∧ _ := it_ H
    have c12b0 := decide_eq_true c12
    clear c12
    obtain ⟨y846, hy846⟩ : ∃ y_ : List Int, y_ = (x7_1.set (x15_1 : Int).toNat t845) := ⟨_, rfl⟩
    first | rw [Option.bind_some, ← hy846] at H | rw [← hy846] at H
    have Ny846 := ak hy846
    clear hy846
    have H' := ak H
    clear H
    have p844 : 0 ≤ (x15_1 : Int) := od_
    have q844 : x15_1 < (l1.length : Int) := od_
    obtain ⟨ad844, e844, hx844_0⟩ := Kd.at_int HR1.out x15_1 p844 q844
    cases e844
    replace hx844_0 := (HB.out.cell (World.block_lt_of_cell? w _ hx844_0)).trans hx844_0
    replace p844 := eq_true p844
    replace q844 := eq_true q844
    go_wp2_with (first | ((with_reducible refine gate_callee (f := 37) rfl ?_); refine gl_ (some 25) Tryd.func37 #[.int .i64 a0, .int .u64 (rd l1 x15_1), .int .u64 a2] ?_; (with_reducible refine (field_Mul.calls a0 (rd l1 x15_1) a2 t845 _ ?side1 A11.out).mono ?_); (case side1 => exact fU_ HG.out HB.out); rintro e w14 ⟨rfl, hb⟩; refine ⟨_, rfl, ?_⟩; refine nx2_ (R_below (rU_ HO_7.out) hb) (below_step (bU_ HB.out) hb) ?_; clear HO_7 HB; intro HO_7 HB; clear hb; have p13 : 0 ≤ (x15_1 : Int) := od_; have q13 : (x15_1 : Int) < ((x7_1.length : Int) : Int) := od_; obtain ⟨go13, co13, eo13, gb13, gl13, cl13, HG13⟩ := Kd.R_form HO_7.out (by omega); (first | cases eo13 | (injection eo13 with ea_ en_ ec_; (first | subst ea_ | (injection ea_ with ea_; subst ea_)); subst ec_; clear en_)); have GB13 := ak gb13; have GG13 := ak HG13; clear gb13 gl13 HG13; obtain ⟨hx13_0, hf13_0⟩ := Kd.R_celln 0 HO_7.out (x15_1 : Int) p13 q13; replace p13 := eq_true p13; replace q13 := eq_true q13; obtain ⟨hy15_, hz15_⟩ := Kd.R_celln 0 HO_7.out (x15_1 : Int) od_ od_; have HP15 := Kd.R_putg HO_7.out (x15_1 : Int) t845) | ((with_reducible refine gate_store (t := 48) (p := 26) rfl ?_); refine store_event (t := 48) (p := 26) (v := ?vo_w16) (w1 := (w14.setCell ⟨go13, (x15_1 : Int).toNat, none⟩ (.int .u64 t845))) ?hg ?ho ?hn ?hr ?_; (case ho => rfl); (case hg => rfl); (case hn => rfl); (case hr => first | (go_simp; done) | (go_simp; rfl)); intro w16 hw; have hg : w14.grownBy w16 (some go13) := (by rw [hw]; exact HP15.2); have hp_ : Kd.R (Kd.int .u64) 48 w16 w.heap.size (fun k_ => (w.heap.size ≤ k_)) (.slice (some ⟨go13, 0, none⟩) x7_1.length co13) y846 := (by rw [hw, Ny846.out]; exact HP15.1); clear HP15; refine nx2_ (hp_) ((by rw [hw]; exact below_set (HB.out) GB13.out : Below w.heap.size w w16)) ?_; clear HO_7 HB; intro HO_7 HB; clear hg hw hp_))
    go_roundg k1
    case measure => have := HK1.out; omega
    case rel => exact ⟨(y846), (wrap64 (x15_1 + 1)), gb_, H', ⟨by have := HK1.out; omega⟩, ⟨rU_ HO_7.out⟩, ⟨bU_ HB.out⟩⟩
   rw [if_neg c8] at H
   have c8b0 := decide_eq_false c8
   clear c8
   revert H
   refine bd_ fun t847 A17 H => ?_
   obtain rfl := Option.some.inj H
   obtain ⟨Ao18, co18, eo18⟩ := R_slice HO_7.out
   subst eo18
   go_wp2_with (first | ((with_reducible refine gate_callee (f := 109) rfl ?_); refine gl_ (some 29) Tryd.func109 #[.slice Ao18 x7_1.length co18] ?_; (with_reducible refine (poly_trim.calls k1 (fun k_ => some k_ = (.slice Ao18 x7_1.length co18 : Value).ownBlock) _ _ x7_1 t847 _ ?side1 A17.out).mono ?_); (case side1 => exact R_V (R_tight rfl (HO_7.out))); rintro e w19 ⟨v848, rfl, ho0, hb⟩; refine ⟨_, rfl, ?_⟩; refine nx3_ (R_below (rU_ HO_7.out) hb) (V_lower (V_mono (ok' := fun k_ => (w.heap.size ≤ k_)) ho0 (fun k_ hk_ => Or.elim hk_ (fun hs_ => ((HO_7.out).1 k_ hs_.symm)) (fun hn_ => (Nat.le_trans (below_size (bU_ HB.out)) hn_)))) (below_size (bU_ HB.out))) (below_step (bU_ HB.out) hb) ?_; clear HO_7 HB; intro HO_7 HO849 HB; clear hb ho0))
   go_ret
   exact ⟨_, eW_, vU_ HO849.out, bU_ HB.out⟩

def field_Neg.f (a0 : Int) (a1 : Int) : Option (Int) := (field_P.f a0).bind fun t850 => (if t850 = 0 then (some 0) else (if (Int.tmod a1 t850) = 0 then (some 0) else (some (IntKind.u64.wrap (t850 - (Int.tmod a1 t850))))))
set_option maxHeartbeats 8000000 in
set_option maxRecDepth 100000 in
theorem field_Neg.calls (a0 : Int) (a1 : Int) (r : Int) (w : World) (hG : Fld w) (h : field_Neg.f a0 a1 = some r) :
  Calls Tryd.prog 63 #[.int .i64 a0, .int .u64 a1] w fun e w' => e = .returned (.int .u64 r) ∧ Below w.heap.size w w' := by
 have HG := ak hG
 clear hG
 have HB := ak (Below.refl w.heap.size w)
 have H := h
 clear h
 unfold field_Neg.f at H
 revert H
 refine bd_ fun t850 A3 H => ?_
 by_cases c4 : t850 = 0
 ·rw [if_pos c4] at H
  have c4b0 := beq_iff_eq.mpr c4
  have c4b1 := bne_eq_false_iff_eq.mpr c4
  clear c4
  obtain rfl := Option.some.inj H
  go_enter Tryd.func63, Tryd.ntmps63
  go_wp2_with (first | ((with_reducible refine gate_callee (f := 47) rfl ?_); refine gl_ (some 7) Tryd.func47 #[.int .i64 a0] ?_; (with_reducible refine (field_P.calls a0 t850 _ ?side1 A3.out).mono ?_); (case side1 => exact fU_ HG.out HB.out); rintro e w5 ⟨rfl, hb⟩; refine ⟨_, rfl, ?_⟩; refine nx1_ (below_step (bU_ HB.out) hb) ?_; clear HB; intro HB; clear hb))
  go_ret
  exact ⟨eW_, bU_ HB.out⟩
 rw [if_neg c4] at H
 have c4b0 := beq_eq_false_iff_ne.mpr c4
 have c4b1 := bne_iff_ne.mpr c4
 by_cases c6 : (Int.tmod a1 t850) = 0
 ·rw [if_pos c6] at H
  have c6b0 := beq_iff_eq.mpr c6
  have c6b1 := bne_eq_false_iff_eq.mpr c6
  clear c6
  obtain rfl := Option.some.inj H
  go_enter Tryd.func63, Tryd.ntmps63
  go_wp2_with (first | ((with_reducible refine gate_callee (f := 47) rfl ?_); refine gl_ (some 7) Tryd.func47 #[.int .i64 a0] ?_; (with_reducible refine (field_P.calls a0 t850 _ ?side1 A3.out).mono ?_); (case side1 => exact fU_ HG.out HB.out); rintro e w7 ⟨rfl, hb⟩; refine ⟨_, rfl, ?_⟩; refine nx1_ (below_step (bU_ HB.out) hb) ?_; clear HB; intro HB; clear hb))
  go_ret
  exact ⟨eW_, bU_ HB.out⟩
 rw [if_neg c6] at H
 have c6b0 := beq_eq_false_iff_ne.mpr c6
 have c6b1 := bne_iff_ne.mpr c6
 obtain rfl := Option.some.inj H
 go_enter Tryd.func63, Tryd.ntmps63
 go_wp2_with (first | ((with_reducible refine gate_callee (f := 47) rfl ?_); refine gl_ (some 7) Tryd.func47 #[.int .i64 a0] ?_; (with_reducible refine (field_P.calls a0 t850 _ ?side1 A3.out).mono ?_); (case side1 => exact fU_ HG.out HB.out); rintro e w8 ⟨rfl, hb⟩; refine ⟨_, rfl, ?_⟩; refine nx1_ (below_step (bU_ HB.out) hb) ?_; clear HB; intro HB; clear hb))
 go_ret
 exact ⟨eW_, bU_ HB.out⟩

def poly_Sub.f (k : Nat) (a0 : Int) (l1 : List Int) (l2 : List Int) : Option (List Int) := (field_Neg.f a0 1).bind fun t851 => ((poly_Scale.f k a0 l2 t851).bind fun t852 => ((poly_Add.f k a0 l1 t852).bind fun t855 => (some t855)))
set_option maxHeartbeats 8000000 in
set_option maxRecDepth 100000 in
theorem poly_Sub.calls (k : Nat) (a0 : Int) (A1 : Option Addr) (c1 : Nat) (l1 : List Int) (A2 : Option Addr) (c2 : Nat) (l2 : List Int) (r : List Int) (w : World) (hG : Fld w) (hr1 : Kd.C (Kd.int .u64) w A1 l1.length l1) (hc1 : l1.length ≤ c1) (hr2 : Kd.C (Kd.int .u64) w A2 l2.length l2) (hc2 : l2.length ≤ c2) (h : poly_Sub.f k a0 l1 l2 = some r) :
  Calls Tryd.prog 17 #[.int .i64 a0, .slice A1 l1.length c1, .slice A2 l2.length c2] w fun e w' => ∃ v0_ : Value, e = .returned (v0_) ∧ Kd.V (Kd.int .u64) 48 w' w.heap.size (fun k_ => (w.heap.size ≤ k_)) v0_ r ∧ Below w.heap.size w w' := by
 have HG := ak hG
 clear hG
 have HR1 := ak hr1
 have HC1 := ak hc1
 clear hr1 hc1
 have HR2 := ak hr2
 have HC2 := ak hc2
 clear hr2 hc2
 have HB := ak (Below.refl w.heap.size w)
 have H := h
 clear h
 unfold poly_Sub.f at H
 revert H
 refine bd_ fun t851 A4 H => ?_
 revert H
 refine bd_ fun t852 A5 H => ?_
 revert H
 refine bd_ fun t855 A6 H => ?_
 obtain rfl := Option.some.inj H
 go_enter Tryd.func17, Tryd.ntmps17
 go_wp2_with (first | ((with_reducible refine gate_callee (f := 63) rfl ?_); refine gl_ (some 12) Tryd.func63 #[.int .i64 a0, .int .u64 1] ?_; (with_reducible refine (field_Neg.calls a0 1 t851 _ ?side1 A4.out).mono ?_); (case side1 => exact fU_ HG.out HB.out); rintro e w7 ⟨rfl, hb⟩; refine ⟨_, rfl, ?_⟩; refine nx1_ (below_step (bU_ HB.out) hb) ?_; clear HB; intro HB; clear hb) | ((with_reducible refine gate_callee (f := 62) rfl ?_); refine gl_ (some 13) Tryd.func62 #[.int .i64 a0, .slice A2 l2.length c2, .int .u64 t851] ?_; (with_reducible refine (poly_Scale.calls k a0 _ _ l2 t851 t852 _ ?side1 ?side2 ?side3 A5.out).mono ?_); (case side1 => exact fU_ HG.out HB.out); (case side2 => exact cU_ (C_below HR2.out HB.out)); (case side3 => exact HC2.out); rintro e w8 ⟨v853, rfl, ho0, hb⟩; refine ⟨_, rfl, ?_⟩; refine nx2_ (V_lower (V_mono (ok' := fun k_ => (w.heap.size ≤ k_)) ho0 (fun k_ hk_ => (Nat.le_trans (below_size (bU_ HB.out)) hk_))) (below_size (bU_ HB.out))) (below_step (bU_ HB.out) hb) ?_; clear HB; intro HO854 HB; clear hb ho0; obtain ⟨Ao9, co9, eo9⟩ := V_slice HO854.out; subst eo9) | ((with_reducible refine gate_callee (f := 61) rfl ?_); refine gl_ (some 14) Tryd.func61 #[.int .i64 a0, .slice A1 l1.length c1, .slice Ao9 t852.length co9] ?_; (with_reducible refine (poly_Add.calls k a0 _ _ l1 _ _ t852 t855 _ ?side1 ?side2 ?side3 ?side4 ?side5 A6.out).mono ?_); (case side1 => exact fU_ HG.out HB.out); (case side2 => exact cU_ (C_below HR1.out HB.out)); (case side3 => exact HC1.out); (case side4 => exact cU_ ((V_reads' HO854.out).2.2)); (case side5 => exact (V_reads' HO854.out).2.1); rintro e w10 ⟨v856, rfl, ho0, hb⟩; refine ⟨_, rfl, ?_⟩; refine nx3_ (V_below (vU_ HO854.out) hb) (V_lower (V_mono (ok' := fun k_ => (w.heap.size ≤ k_)) ho0 (fun k_ hk_ => (Nat.le_trans (below_size (bU_ HB.out)) hk_))) (below_size (bU_ HB.out))) (below_step (bU_ HB.out) hb) ?_; clear HO854 HB; intro HO854 HO857 HB; clear hb ho0))
 go_ret
 exact ⟨_, eW_, vU_ HO857.out, bU_ HB.out⟩

def poly_Degree.l0 : Nat → Int → List Int → Int → Option (Int)
 | 0, _, _, _ => none
 | k + 1, x0, x1, x5 => if x5 > 0 then (if 0 ≤ (wrap64 (x5 - 1)) then (if (wrap64 (x5 - 1)) < (x1.length : Int) then ((field_Reduce.f x0 (rd x1 (wrap64 (x5 - 1)))).bind fun t859 => (if t859 = 0 then (poly_Degree.l0 k x0 x1 (wrap64 (x5 - 1))) else (some (wrap64 (x5 - 1))))) else (none)) else (none)) else (some (-1))
def poly_Degree.f (k : Nat) (a0 : Int) (l1 : List Int) : Option (Int) := poly_Degree.l0 k a0 l1 (l1.length : Int)
set_option maxHeartbeats 8000000 in
set_option maxRecDepth 100000 in
theorem poly_Degree.calls (k : Nat) (a0 : Int) (A1 : Option Addr) (c1 : Nat) (l1 : List Int) (r : Int) (w : World) (hG : Fld w) (hr1 : Kd.C (Kd.int .u64) w A1 l1.length l1) (hc1 : l1.length ≤ c1) (h : poly_Degree.f k a0 l1 = some r) :
  Calls Tryd.prog 19 #[.int .i64 a0, .slice A1 l1.length c1] w fun e w' => e = .returned (.int .i64 r) ∧ Below w.heap.size w w' := by
 have HG := ak hG
 clear hG
 have HR1 := ak hr1
 have HC1 := ak hc1
 clear hr1 hc1
 have HB := ak (Below.refl w.heap.size w)
 have H : (poly_Degree.l0 k a0 l1 (l1.length : Int)) = some r := h
 clear h
 have H' := ak H
 clear H
 go_enter Tryd.func19, Tryd.ntmps19
 go_wp2
 go_loopg [5] k (fun kq v5 w' => ∃ (x5_1 : Int), v5 = .int .i64 x5_1 ∧ Aside0 (poly_Degree.l0 kq a0 l1 x5_1 = some r) ∧ Aside0 (kq ≤ k) ∧ Aside0 (Below w.heap.size w w'))
 case atStart => exact ⟨((l1.length : Int)), gb_, H', ⟨Nat.le_refl _⟩, ⟨bU_ HB.out⟩⟩
 case round =>
  clear H'
  (try clear c1); (try clear p2)
  obtain ⟨x5_1, rfl, HA, HK1, HB⟩ := hrel
  cases gk with
  | zero => exact absurd HA.out (by simp [poly_Degree.l0])
  | succ k1 =>
   have H := HA.out
   clear HA
   simp only [poly_Degree.l0] at H
   by_cases c3 : x5_1 > 0
   ·rw [if_pos c3] at H
    have c3b0 : decide (0 < x5_1) = true := decide_eq_true c3
    clear c3
    obtain ⟨ji4, hji4⟩ : ∃ j_ : Int, (wrap64 (x5_1 - 1)) = j_ := ⟨_, rfl⟩
    first | rw [hji4] at H | simp only [hji4] at H
    have hji4w : (IntKind.i64.wrap (x5_1 - 1)) = ji4 := (i64_w _).trans hji4
    obtain ⟨c5, H⟩ : (0 ≤ (ji4)) ∧ _ := it_ H
    have c5b0 := decide_eq_true c5
    clear c5
    obtain ⟨c6, H⟩ : ((ji4) < (l1.length : Int)) ∧ _ := it_ H
    have c6b0 := decide_eq_true c6
    clear c6
    revert H
    refine bd_ fun t859 A7 H => ?_
    by_cases c8 : t859 = 0
    ·rw [if_pos c8] at H
     have c8b0 := beq_iff_eq.mpr c8
     have c8b1 := bne_eq_false_iff_eq.mpr c8
     clear c8
     have H' := ak H
     clear H
     have p858 : 0 ≤ ((ji4) : Int) := od_
     have q858 : (ji4) < (l1.length : Int) := od_
     obtain ⟨ad858, e858, hx858_0⟩ := Kd.at_int HR1.out (ji4) p858 q858
     cases e858
     replace hx858_0 := (HB.out.cell (World.block_lt_of_cell? w _ hx858_0)).trans hx858_0
     replace p858 := eq_true p858
     replace q858 := eq_true q858
     go_wp2_with (first | ((with_reducible refine gate_callee (f := 32) rfl ?_); refine goesL_ (some 18) rfl rfl Tryd.func32 (by kernel_rfl) rfl #[.int .i64 a0, .int .u64 (rd l1 (ji4))] rfl (by (try simp only [List.map_toArray, List.map_cons, List.map_nil]); first | done | (simp only [hji4]; rfl) | rfl | (simp only [List.length_drop, List.length_take]; rfl)) ?_; (with_reducible refine (field_Reduce.calls a0 (rd l1 (ji4)) t859 _ ?side1 A7.out).mono ?_); (case side1 => exact fU_ HG.out HB.out); rintro e w9 ⟨rfl, hb⟩; refine ⟨_, rfl, ?_⟩; refine nx1_ (below_step (bU_ HB.out) hb) ?_; clear HB; intro HB; clear hb))
     go_roundg k1
     case measure => have := HK1.out; omega
     case rel => exact ⟨(ji4), (by first | rfl | (simp; done) | (simp only [← hji4] <;> (first | rfl | simp)) | (simp [*]; done)), H', ⟨by have := HK1.out; omega⟩, ⟨bU_ HB.out⟩⟩
    rw [if_neg c8] at H
    have c8b0 := beq_eq_false_iff_ne.mpr c8
    have c8b1 := bne_iff_ne.mpr c8
    obtain rfl := Option.some.inj H
    have p858 : 0 ≤ ((ji4) : Int) := od_
    have q858 : (ji4) < (l1.length : Int) := od_
    obtain ⟨ad858, e858, hx858_0⟩ := Kd.at_int HR1.out (ji4) p858 q858
    cases e858
    replace hx858_0 := (HB.out.cell (World.block_lt_of_cell? w _ hx858_0)).trans hx858_0
    replace p858 := eq_true p858
    replace q858 := eq_true q858
    go_wp2_with (first | ((with_reducible refine gate_callee (f := 32) rfl ?_); refine goesL_ (some 18) rfl rfl Tryd.func32 (by kernel_rfl) rfl #[.int .i64 a0, .int .u64 (rd l1 (ji4))] rfl (by (try simp only [List.map_toArray, List.map_cons, List.map_nil]); first | done | (simp only [hji4]; rfl) | rfl | (simp only [List.length_drop, List.length_take]; rfl)) ?_; (with_reducible refine (field_Reduce.calls a0 (rd l1 (ji4)) t859 _ ?side1 A7.out).mono ?_); (case side1 => exact fU_ HG.out HB.out); rintro e w10 ⟨rfl, hb⟩; refine ⟨_, rfl, ?_⟩; refine nx1_ (below_step (bU_ HB.out) hb) ?_; clear HB; intro HB; clear hb))
    go_ret
    exact ⟨by first | rfl | (simp [errW_none, errW_some] <;> rfl) | (simp only [← hji4]; first | rfl | (simp [errW_none, errW_some] <;> rfl)) | (simp [*, errW_none, errW_some] <;> rfl), bU_ HB.out⟩
   rw [if_neg c3] at H
   have c3b0 : decide (0 < x5_1) = false := decide_eq_false c3
   clear c3
   obtain rfl := Option.some.inj H
   go_wp2
   go_ret
   exact ⟨eW_, bU_ HB.out⟩

def attestorlaw11_GapRoots.j0 : Nat → Int → List Int → Int → Option (Bool)
 | 0, _, _, _ => none
 | k + 1, x7, x8, x9 => (poly_Degree.f k x7 x8).bind fun t867 => (if t867 < 0 then (if 0 ≤ x7 then (if x7 < 2 then (if x9 = (bco [97, 257] (x7 : Int).toNat) then ((attestorlaw11_works.f k).bind fun t868 => (some t868)) else (none)) else (none)) else (none)) else ((poly_Degree.f k x7 x8).bind fun t869 => (if x9 ≤ t869 then ((attestorlaw11_works.f k).bind fun t870 => (some t870)) else (none))))
def attestorlaw11_GapRoots.f (k : Nat) (a0 : Int) (l1 : List Int) (l2 : List Int) : Option (Bool) := if 0 ≤ (mn (l1.length : Int) 30) then (if (mn (l1.length : Int) 30) ≤ (l1.length : Int) then (if 0 ≤ (mn (l2.length : Int) 30) then (if (mn (l2.length : Int) 30) ≤ (l2.length : Int) then ((poly_Sub.f k (wrap64 (Int.tmod a0 2)) (l1.take ((mn (l1.length : Int) 30) : Int).toNat) (l2.take ((mn (l2.length : Int) 30) : Int).toNat)).bind fun t862 => ((gap_Roots.f k (wrap64 (Int.tmod a0 2)) t862).bind fun bt865 => (if bt865.2 = 0 then (attestorlaw11_GapRoots.j0 k (wrap64 (Int.tmod a0 2)) t862 bt865.1) else (none)))) else (none)) else (none)) else (none)) else (none)
def attestorlaw11_GapRoots.T2 : Bool × List (List Nat × List Nat) := (true, [([], []), ([], []), ([], []), ([2], [2]), ([3], [3]), ([1, 4], [1, 4]), ([], []), ([], []), ([7], [7]), ([8], [8]), ([6, 9], [6, 9]), ([0, 5, 10], [0, 5, 10]), ([11, 11, 0, 1, 2, 3, 4, 5, 6, 7, 8, 9, 10, 11], [11])])
def attestorlaw11_GapRoots.B2 : List Nat := [0, 0, 0, 4, 12, 30, 0, 0, 128, 384, 960, 2047, 4095]
theorem attestorlaw11_GapRoots.tab2 : rtab .any (opsOf Tryd.f4 2) = attestorlaw11_GapRoots.T2 := by kernel_rfl
theorem attestorlaw11_GapRoots.bits2 : waitsOk attestorlaw11_GapRoots.T2.2 attestorlaw11_GapRoots.B2 = true := by kernel_rfl
set_option maxHeartbeats 8000000 in
set_option maxRecDepth 100000 in
theorem attestorlaw11_GapRoots.calls (k : Nat) (a0 : Int) (A1 : Option Addr) (c1 : Nat) (l1 : List Int) (A2 : Option Addr) (c2 : Nat) (l2 : List Int) (r : Bool) (w : World) (hG : Fld w) (hr1 : Kd.C (Kd.int .u64) w A1 l1.length l1) (hc1 : l1.length ≤ c1) (hr2 : Kd.C (Kd.int .u64) w A2 l2.length l2) (hc2 : l2.length ≤ c2) (h : attestorlaw11_GapRoots.f k a0 l1 l2 = some r) :
  Calls Tryd.prog 4 #[.int .u8 a0, .slice A1 l1.length c1, .slice A2 l2.length c2] w fun e w' => e = .returned (.bool r) ∧ Below w.heap.size w w' := by
 have hbA40_0_1 : ∀ (x0 x1 : Int) (w : World), (Instr.build 40 #[(0, .int .i64 x0), (1, .int .i64 x1)]).run Tryd.prog w = .ok (.agg #[.int .i64 x0, .int .i64 x1]) w := by intros; kernel_rfl
 have hix0_ : ∀ (x0 x1 : Int) (w : World), (Instr.index 40 (.agg #[.int .i64 x0, .int .i64 x1]) (.int .i64 0)).run Tryd.prog w = .ok (.int .i64 (bco [x0, x1] (0 : Int).toNat)) w := by intros; kernel_rfl
 have hix1_ : ∀ (x0 x1 : Int) (w : World), (Instr.index 40 (.agg #[.int .i64 x0, .int .i64 x1]) (.int .i64 1)).run Tryd.prog w = .ok (.int .i64 (bco [x0, x1] (1 : Int).toNat)) w := by intros; kernel_rfl
 have hidxAar2i64 : ∀ (x0 x1 j : Int) (w : World), 0 ≤ j → j < 2 → (Instr.index 40 (.agg #[.int .i64 x0, .int .i64 x1]) (.int .i64 j)).run Tryd.prog w = .ok (.int .i64 (bco [x0, x1] j.toNat)) w := by intro x0 x1 j w p_ q_; have h_ : j = 0 ∨ j = 1 := (by omega); rcases h_ with rfl | rfl; exact hix0_ x0 x1 w; exact hix1_ x0 x1 w
 have HG := ak hG
 clear hG
 have HR1 := ak hr1
 have HC1 := ak hc1
 clear hr1 hc1
 have HR2 := ak hr2
 have HC2 := ak hc2
 clear hr2 hc2
 have HB := ak (Below.refl w.heap.size w)
 have H := h
 clear h
 unfold attestorlaw11_GapRoots.f at H
 obtain ⟨ji4, hji4⟩ : ∃ j_ : Int, (mn (l1.length : Int) 30) = j_ := ⟨_, rfl⟩
 first | rw [hji4] at H | simp only [hji4] at H
 (try (have hji4h : ji4 ≤ 30 := by (rw [← hji4]; unfold mn; (repeat' split) <;> omega)))
 (try (have hji4g : ji4 ≤ 64 := by omega))
 (try (have hji4l : 0 ≤ ji4 := by (rw [← hji4]; unfold mn; (repeat' split) <;> omega)))
 (try (have hji4m : 0 ≤ ji4 := by omega))
 have hji4_ : (if 30 < (l1.length : Int) then 30 else (l1.length : Int)) = ji4 := hji4
 obtain ⟨c5, H⟩ : (0 ≤ (ji4)) ∧ _ := it_ H
 have c5b0 := eq_true c5
 have c5b1 := decide_eq_true c5
 clear c5
 obtain ⟨c6, H⟩ : ((ji4) ≤ (l1.length : Int)) ∧ _ := it_ H
 have c6b0 := eq_true c6
 have c6b1 := decide_eq_true c6
 clear c6
 obtain ⟨ji7, hji7⟩ : ∃ j_ : Int, (mn (l2.length : Int) 30) = j_ := ⟨_, rfl⟩
 first | rw [hji7] at H | simp only [hji7] at H
 (try (have hji7h : ji7 ≤ 30 := by (rw [← hji7]; unfold mn; (repeat' split) <;> omega)))
 (try (have hji7g : ji7 ≤ 64 := by omega))
 (try (have hji7l : 0 ≤ ji7 := by (rw [← hji7]; unfold mn; (repeat' split) <;> omega)))
 (try (have hji7m : 0 ≤ ji7 := by omega))
 have hji7_ : (if 30 < (l2.length : Int) then 30 else (l2.length : Int)) = ji7 := hji7
 obtain ⟨c8, H⟩ : (0 ≤ (ji7)) ∧ _ := it_ H
 have c8b0 := eq_true c8
 have c8b1 := decide_eq_true c8
 clear c8
 obtain ⟨c9, H⟩ : ((ji7) ≤ (l2.length : Int)) ∧ _ := it_ H
 have c9b0 := eq_true c9
 have c9b1 := decide_eq_true c9
 clear c9
 revert H
 refine bd_ fun t862 A10 H => ?_
 revert H
 refine bd2_ fun t865 t866 A11 H => ?_
 try dsimp only at H
 have HC12 := ak H
 clear H
 go_enter Tryd.func4, Tryd.ntmps4
 try go_wp2
 refine nx1_ (below_drew1 HB.out) ?_
 clear HB
 intro HB
 obtain ⟨i014, hi014, _, hsz14, _⟩ := info_parts info48
 obtain ⟨hcut14, hA14, hC14⟩ := print_take_of (P := Tryd.prog) (Value.int .u64) 0 35 48 .i64 Tryd.underlying35 hi014 hsz14 A1 c1 l1 (ji4) od_ od_ HC1.out
 have HR860 := ak (C_of_reads (h1 := fun _ => rfl) (hA14 _ (Kd.reads_of_C HR1.out)))
 have HC860 := ak hC14
 clear hA14 hC14 hi014 hsz14
 obtain ⟨i015, hi015, _, hsz15, _⟩ := info_parts info48
 obtain ⟨hcut15, hA15, hC15⟩ := print_take_of (P := Tryd.prog) (Value.int .u64) 0 35 48 .i64 Tryd.underlying35 hi015 hsz15 A2 c2 l2 (ji7) od_ od_ HC2.out
 have HR861 := ak (C_of_reads (h1 := fun _ => rfl) (hA15 _ (Kd.reads_of_C HR2.out)))
 have HC861 := ak hC15
 clear hA15 hC15 hi015 hsz15
 refine start_ (n := 13) (S := fun w' => True) (ds := []) (bv 13 0) (by kernel_rfl) rfl rfl trivial (fun hHeld => ?_); refine with_tabW attestorlaw11_GapRoots.tab2 attestorlaw11_GapRoots.bits2 (fun HT_ HW_ => ?_)
 generalize w.drew = w13 at HB HR860 HR861 hHeld ⊢
 refine pq_ 0 14 13 1 HT_.out ?_
 refine pq_ 1 15 13 3 HT_.out ?_
 refine pq_ 2 16 13 7 HT_.out ?_
 refine pq_ 3 17 13 15 HT_.out ?_
 refine pq_ 4 18 13 31 HT_.out ?_
 refine pq_ 5 19 13 63 HT_.out ?_
 refine pq_ 6 20 13 127 HT_.out ?_
 refine pq_ 7 21 13 255 HT_.out ?_
 refine pq_ 8 22 13 511 HT_.out ?_
 refine pq_ 9 23 13 1023 HT_.out ?_
 refine pq_ 10 24 13 2047 HT_.out ?_
 refine oq_ 11 25 13 4095 HT_.out fun K hK => ?_
 refine goes_ Tryd.func17 (by kernel_rfl) rfl #[.int .i64 (wrap64 (Int.tmod a0 2)), .slice A1 (l1.take ((ji4) : Int).toNat).length c1, .slice A2 (l2.take ((ji7) : Int).toNat).length c2] (by rfl) rfl rfl (by (try simp only [List.map_toArray, List.map_cons, List.map_nil]); first | done | (rw [show (l1.take ((ji4) : Int).toNat).length = (ji4).toNat from (by rw [List.length_take]; have h_ : ((ji4) : Int) ≤ (l1.length : Int) := od_; omega)] <;> rfl) | (rw [show (l2.take ((ji7) : Int).toNat).length = (ji7).toNat from (by rw [List.length_take]; have h_ : ((ji7) : Int) ≤ (l2.length : Int) := od_; omega)] <;> rfl) | (rw [show (l1.take ((ji4) : Int).toNat).length = (ji4).toNat from (by rw [List.length_take]; have h_ : ((ji4) : Int) ≤ (l1.length : Int) := od_; omega), show (l2.take ((ji7) : Int).toNat).length = (ji7).toNat from (by rw [List.length_take]; have h_ : ((ji7) : Int) ≤ (l2.length : Int) := od_; omega)] <;> rfl) | (simp only [hji4, hji7]; rfl) | rfl | (simp only [List.length_drop, List.length_take]; rfl)) ?_
 with_reducible refine (poly_Sub.calls k (wrap64 (Int.tmod a0 2)) _ _ (l1.take ((ji4) : Int).toNat) _ _ (l2.take ((ji7) : Int).toNat) t862 _ ?side1 ?side2 ?side3 ?side4 ?side5 A10.out).mono ?_
 (case side1 => exact fU_ HG.out HB.out)
 (case side2 => exact cU_ (C_below HR860.out HB.out))
 (case side3 => exact HC860.out)
 (case side4 => exact cU_ (C_below HR861.out HB.out))
 (case side5 => exact HC861.out)
 rintro e w16 ⟨v863, rfl, ho0, hb⟩
 refine ⟨_, rfl, ?_⟩
 refine nx2_ (V_lower (V_mono (ok' := fun k_ => True) ho0 (fun k_ hk_ => trivial)) (below_size (bU_ HB.out))) (below_step (bU_ HB.out) hb) ?_
 clear HB
 intro HO864 HB
 (try clear hb)
 (try clear hb2)
 (try clear hk)
 (try clear hi)
 (try clear ho0)
 refine hK.out _ _ trivial (fun hHeld => ?_)
 clear hK K
 refine norm_ (a' := ?_) ?_ ?_
 rotate_left
 ·show Act.put _ (some 25) _ = _
  simp only [Act.put, s1_, s2_, s3_, i64_w, i32_w]
  rfl
 refine pq_ 12 8 13 8191 HT_.out ?_
 refine done_ (done_of HT_.out (by kernel_rfl)) ?_
 obtain ⟨Ao17, co17, eo17⟩ := V_slice HO864.out
 subst eo17
 go_upto_if 33 with (first | ((with_reducible refine gate_callee (f := 18) rfl ?_); refine gl_ (some 29) Tryd.func18 #[.int .i64 (wrap64 (Int.tmod a0 2)), .slice Ao17 t862.length co17] ?_; (with_reducible refine (gap_Roots.calls k (wrap64 (Int.tmod a0 2)) _ _ t862 t865 t866 _ ?side1 ?side2 ?side3 A11.out).mono ?_); (case side1 => exact fU_ HG.out HB.out); (case side2 => exact cU_ ((V_reads' HO864.out).2.2)); (case side3 => exact (V_reads' HO864.out).2.1); rintro e w18 ⟨rfl, hb⟩; refine ⟨_, rfl, ?_⟩; refine nx2_ (V_below (vU_ HO864.out) hb) (below_step (bU_ HB.out) hb) ?_; clear HO864 HB; intro HO864 HB; clear hb))
 (try simp only [Act.put, s1_, s2_, s3_])
 go_cut [] (fun wc => ∃ (kq : Nat), Aside0 (attestorlaw11_GapRoots.j0 kq (wrap64 (Int.tmod a0 2)) t862 t865 = some r) ∧ Aside0 (kq ≤ k) ∧ Aside0 (Kd.V (Kd.int .u64) 48 wc w.heap.size (fun _ => True) (.slice Ao17 t862.length co17) t862) ∧ Aside0 (Below w.heap.size w wc))
 case first =>
  have H := HC12.out
  clear HC12
  obtain ⟨c19, H⟩ : (t866 = 0) ∧ _ := it_ H
  have c19b0 := beq_iff_eq.mpr c19
  have c19b1 := bne_eq_false_iff_eq.mpr c19
  clear c19
  (first | rw [c19b0] | (simp only [i64_w, i32_w]; rw [c19b0]) | rw [c19b1] | skip)
  have H' := ak H
  clear H
  go_wp2
  go_meet
  case rel => exact ⟨_, H', ⟨by first | omega | exact Nat.le_refl _⟩, ⟨vU_ HO864.out⟩, ⟨bU_ HB.out⟩⟩
 case rest =>
  clear HC12
  (try clear c1); (try clear c2); (try clear p2); (try clear c4); (try clear c5); (try clear c5b0); (try clear c5b1); (try clear c6); (try clear c6b0); (try clear c6b1); (try clear p6); (try clear c8); (try clear c8b0); (try clear c8b1); (try clear c9); (try clear c9b0); (try clear c9b1); (try clear c17); (try clear c18); (try clear c19); (try clear c19b0); (try clear c19b1)
  obtain ⟨kq, HA, HJ11, HO_8, HB⟩ := hcut
  cases kq with
  | zero => exact absurd HA.out (by simp [attestorlaw11_GapRoots.j0])
  | succ kj11 =>
   have H := HA.out
   clear HA
   simp only [attestorlaw11_GapRoots.j0] at H
   revert H
   refine bd_ fun t867 A20 H => ?_
   by_cases c21 : t867 < 0
   ·rw [if_pos c21] at H
    have c21b0 := decide_eq_true c21
    clear c21
    obtain ⟨ji22, hji22⟩ : ∃ j_ : Int, (wrap64 (Int.tmod a0 2)) = j_ := ⟨_, rfl⟩
    first | rw [hji22] at H | simp only [hji22] at H
    (try rw [hji22] at A20)
    have hji22w : (IntKind.i64.wrap (Int.tmod a0 2)) = ji22 := (i64_w _).trans hji22
    obtain ⟨c23, H⟩ : (0 ≤ (ji22)) ∧ _ := it_ H
    have c23b0 := decide_eq_true c23
    clear c23
    obtain ⟨c24, H⟩ : ((ji22) < 2) ∧ _ := it_ H
    have c24b0 := decide_eq_true c24
    clear c24
    obtain ⟨c26, H⟩ : (t865 = (bco [97, 257] ((ji22) : Int).toNat)) ∧ _ := it_ H
    have c26b0 := beq_iff_eq.mpr c26
    have c26b1 := bne_eq_false_iff_eq.mpr c26
    clear c26
    revert H
    refine bd_ fun t868 A27 H => ?_
    obtain rfl := Option.some.inj H
    go_wp2_with (first | ((with_reducible refine gate_callee (f := 19) rfl ?_); refine goesL_ (some 36) rfl rfl Tryd.func19 (by kernel_rfl) rfl #[.int .i64 (ji22), .slice Ao17 t862.length co17] rfl (by (try simp only [List.map_toArray, List.map_cons, List.map_nil]); first | done | (simp only [hji22]; rfl) | rfl | (simp only [List.length_drop, List.length_take]; rfl)) ?_; (with_reducible refine (poly_Degree.calls kj11 (ji22) _ _ t862 t867 _ ?side1 ?side2 ?side3 A20.out).mono ?_); (case side1 => exact fU_ HG.out HB.out); (case side2 => exact cU_ ((V_reads' HO_8.out).2.2)); (case side3 => exact (V_reads' HO_8.out).2.1); rintro e w28 ⟨rfl, hb⟩; refine ⟨_, rfl, ?_⟩; refine nx2_ (V_below (vU_ HO_8.out) hb) (below_step (bU_ HB.out) hb) ?_; clear HO_8 HB; intro HO_8 HB; clear hb; have hx25 := fun w_ => hidxAar2i64 97 257 (ji22) w_ od_ od_) | (go_at_call 16; (with_reducible refine (attestorlaw11_works.calls kj11  t868 _ ?side1 A27.out).mono ?_); (case side1 => exact fU_ HG.out HB.out); rintro e w29 ⟨rfl, hb⟩; refine nx2_ (V_below (vU_ HO_8.out) hb) (below_step (bU_ HB.out) hb) ?_; clear HO_8 HB; intro HO_8 HB; clear hb))
    go_ret
    exact ⟨by first | rfl | (simp [errW_none, errW_some] <;> rfl) | (simp only [← hji4, ← hji7, ← hji22]; first | rfl | (simp [errW_none, errW_some] <;> rfl)) | (simp [*, errW_none, errW_some] <;> rfl), bU_ HB.out⟩
   rw [if_neg c21] at H
   have c21b0 := decide_eq_false c21
   clear c21
   revert H
   refine bd_ fun t869 A30 H => ?_
   obtain ⟨c31, H⟩ : (t865 ≤ t869) ∧ _ := it_ H
   have c31b0 := decide_eq_true c31
   clear c31
   revert H
   refine bd_ fun t870 A32 H => ?_
   obtain rfl := Option.some.inj H
   go_wp2_with (first | ((with_reducible refine gate_callee (f := 19) rfl ?_); refine gl_ (some 36) Tryd.func19 #[.int .i64 (wrap64 (Int.tmod a0 2)), .slice Ao17 t862.length co17] ?_; (with_reducible refine (poly_Degree.calls kj11 (wrap64 (Int.tmod a0 2)) _ _ t862 t867 _ ?side1 ?side2 ?side3 A20.out).mono ?_); (case side1 => exact fU_ HG.out HB.out); (case side2 => exact cU_ ((V_reads' HO_8.out).2.2)); (case side3 => exact (V_reads' HO_8.out).2.1); rintro e w33 ⟨rfl, hb⟩; refine ⟨_, rfl, ?_⟩; refine nx2_ (V_below (vU_ HO_8.out) hb) (below_step (bU_ HB.out) hb) ?_; clear HO_8 HB; intro HO_8 HB; clear hb) | ((with_reducible refine gate_callee (f := 19) rfl ?_); refine gl_ (some 49) Tryd.func19 #[.int .i64 (wrap64 (Int.tmod a0 2)), .slice Ao17 t862.length co17] ?_; (with_reducible refine (poly_Degree.calls kj11 (wrap64 (Int.tmod a0 2)) _ _ t862 t869 _ ?side1 ?side2 ?side3 A30.out).mono ?_); (case side1 => exact fU_ HG.out HB.out); (case side2 => exact cU_ ((V_reads' HO_8.out).2.2)); (case side3 => exact (V_reads' HO_8.out).2.1); rintro e w34 ⟨rfl, hb⟩; refine ⟨_, rfl, ?_⟩; refine nx2_ (V_below (vU_ HO_8.out) hb) (below_step (bU_ HB.out) hb) ?_; clear HO_8 HB; intro HO_8 HB; clear hb) | (go_at_call 16; (with_reducible refine (attestorlaw11_works.calls kj11  t870 _ ?side1 A32.out).mono ?_); (case side1 => exact fU_ HG.out HB.out); rintro e w35 ⟨rfl, hb⟩; refine nx2_ (V_below (vU_ HO_8.out) hb) (below_step (bU_ HB.out) hb) ?_; clear HO_8 HB; intro HO_8 HB; clear hb))
   go_ret
   exact ⟨by first | rfl | (simp [errW_none, errW_some] <;> rfl) | (simp only [← hji4, ← hji7]; first | rfl | (simp [errW_none, errW_some] <;> rfl)) | (simp [*, errW_none, errW_some] <;> rfl), bU_ HB.out⟩

def attestorlaw11_GapRoots.Pure : Prop := ∀ (a0 : Int) (l1 : List Int) (l2 : List Int), (Lit.int .u8 a0).wf = true → l1.length ≤ maxLen → l1.length * 8 ≤ 140737488351232 → (∀ x ∈ l1, (Lit.int .u64 x).wf = true) → l2.length ≤ maxLen → l2.length * 8 ≤ 140737488351232 → (∀ x ∈ l2, (Lit.int .u64 x).wf = true) → ∃ k, attestorlaw11_GapRoots.f k a0 l1 l2 = some true
theorem attestorlaw11_GapRoots.walk (P : attestorlaw11_GapRoots.Pure) (a0 : Int) (a1 : Option Addr) (len1 cap1 : Nat) (z1 : List Int) (a2 : Option Addr) (len2 cap2 : Nat) (z2 : List Int) (w : World) (hG : Fld w) (w0 : (Lit.int .u8 a0).wf = true) (w1 : (a1 = none ∧ len1 = 0 ∧ cap1 = 0 ∧ z1 = []) ∨ ∃ x, a1 = some x ∧ len1 ≤ cap1 ∧ cap1 ≤ maxLen ∧ z1.length = cap1 ∧ (∀ i, i < z1.length → w.cell? (x.add i) = some (.int .u64 (z1.getD i 0))) ∧ ∀ n ∈ z1, (Lit.int .u64 n).wf = true) (y1 : len1 * 8 ≤ 140737488351232) (w2 : (a2 = none ∧ len2 = 0 ∧ cap2 = 0 ∧ z2 = []) ∨ ∃ x, a2 = some x ∧ len2 ≤ cap2 ∧ cap2 ≤ maxLen ∧ z2.length = cap2 ∧ (∀ i, i < z2.length → w.cell? (x.add i) = some (.int .u64 (z2.getD i 0))) ∧ ∀ n ∈ z2, (Lit.int .u64 n).wf = true) (y2 : len2 * 8 ≤ 140737488351232) :
  Calls Tryd.prog 4 #[.int .u8 a0, .slice a1 len1 cap1, .slice a2 len2 cap2] w fun e w' => e = .returned (.bool true) ∧ Below w.heap.size w w' := by
 obtain ⟨l1, rfl, hr1, hm1, hw1, hc1⟩ := ReadsInt.ofRowC w1
 obtain ⟨l2, rfl, hr2, hm2, hw2, hc2⟩ := ReadsInt.ofRowC w2
 obtain ⟨k, h⟩ := P a0 l1 l2 w0 hm1 y1 hw1 hm2 y2 hw2
 refine (attestorlaw11_GapRoots.calls k a0 _ _ l1 _ _ l2 true w hG (C_of_reads (d := (0 : Int)) (h1 := fun _ => rfl) hr1) hc1 (C_of_reads (d := (0 : Int)) (h1 := fun _ => rfl) hr2) hc2 h).mono ?_
 rintro e w' ⟨rfl, hd⟩
 exact ⟨rfl, hd⟩

end Go.Proofs.YtbjeemlbjkmhiaaDoor.Q

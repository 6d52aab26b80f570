-- Written by prx.py (this session's driver of the kit's print) out of the translation. Not trusted: Lean checks it.
import Derived.Test.YtjjjoepnlhpjdaaDoorQ0
namespace Go.Proofs.YtjjjoepnlhpjdaaDoor.Q
open Go.RowKit Go.Proofs.YtjjjoepnlhpjdaaDoorW.PrintWords Go.Proofs.YtjjjoepnlhpjdaaDoorW.PrintLast Go.Proofs.YtjjjoepnlhpjdaaDoorW.PrintMore
attribute [local go_sem] max2_int min2_int max_two min_two max_three min_three max_four min_four   -- for this text's walks alone
set_option linter.unusedVariables false
set_option linter.unusedSimpArgs false

/-! ### attestorlaw02_nat: function 20 -/
def attestorlaw02_nat.l0 : Nat → List Int → Int → Option (List Int)
 | 0, _, _ => none
 | k + 1, x0, x5 => if x5 > 0 then (if 0 ≤ (wrap64 (x5 - 1)) then (if (wrap64 (x5 - 1)) < (x0.length : Int) then (if (rd x0 (wrap64 (x5 - 1))) = 0 then (attestorlaw02_nat.l0 k x0 (wrap64 (x5 - 1))) else (if 0 ≤ x5 then (if x5 ≤ (x0.length : Int) then (if ([] : List Int).length + (x0.take (x5 : Int).toNat).length < 35184372088832 then (some (([] : List Int) ++ (x0.take (x5 : Int).toNat))) else (none)) else (none)) else (none))) else (none)) else (none)) else (if 0 ≤ x5 then (if x5 ≤ (x0.length : Int) then (if ([] : List Int).length + (x0.take (x5 : Int).toNat).length < 35184372088832 then (some (([] : List Int) ++ (x0.take (x5 : Int).toNat))) else (none)) else (none)) else (none))
def attestorlaw02_nat.f (k : Nat) (l0 : List Int) (a1 : Int) : Option (List Int) := attestorlaw02_nat.l0 k l0 (mn (l0.length : Int) a1)
set_option maxHeartbeats 8000000 in
set_option maxRecDepth 100000 in
theorem attestorlaw02_nat.calls (k : Nat) (A0 : Option Addr) (c0 : Nat) (l0 : List Int) (a1 : Int) (r : List Int) (w : World) (hr0 : Kd.C (Kd.int .u32) w A0 l0.length l0) (hc0 : l0.length ≤ c0) (h : attestorlaw02_nat.f k l0 a1 = some r) :
  Calls Tryd.prog 20 #[.slice A0 l0.length c0, .int .i64 a1] w fun e w' => ∃ v0_ : Value, e = .returned (v0_) ∧ Kd.R (Kd.int .u32) 44 w' w.heap.size (fun _ => True) v0_ r ∧ Below w.heap.size w w' := by
 have HR0 := ak hr0
 have HC0 := ak hc0
 clear hr0 hc0
 have HB := ak (Below.refl w.heap.size w)
 have H : (attestorlaw02_nat.l0 k l0 (mn (l0.length : Int) a1)) = some r := h
 clear h
 obtain ⟨ji3, hji3⟩ : ∃ j_ : Int, (mn (l0.length : Int) a1) = j_ := ⟨_, rfl⟩
 first | rw [hji3] at H | simp only [hji3] at H
 have hji3_ : (if a1 < (l0.length : Int) then a1 else (l0.length : Int)) = ji3 := hji3
 have H' := ak H
 clear H
 go_enter Tryd.func20, Tryd.ntmps20
 go_wp2
 go_loopg [5] k (fun kq v5 w' => ∃ (x5_1 : Int), v5 = .int .i64 x5_1 ∧ Aside0 (attestorlaw02_nat.l0 kq l0 x5_1 = some r) ∧ Aside0 (kq ≤ k) ∧ Aside0 (Below w.heap.size w w'))
 case atStart => exact ⟨(ji3), (by first | rfl | (simp; done) | (simp only [← hji3] <;> (first | rfl | simp)) | (simp [*]; done)), H', ⟨Nat.le_refl _⟩, ⟨bU_ HB.out⟩⟩
 case round =>
  clear H'
  (try clear c2); (try clear p2)
  obtain ⟨x5_1, rfl, HA, HK1, HB⟩ := hrel
  cases gk with
  | zero => exact absurd HA.out (by simp [attestorlaw02_nat.l0])
  | succ k1 =>
   have H := HA.out
   clear HA
   simp only [attestorlaw02_nat.l0] at H
   by_cases c4 : x5_1 > 0
   ·rw [if_pos c4] at H
    have c4b0 : decide (0 < x5_1) = true := decide_eq_true c4
    clear c4
    obtain ⟨ji5, hji5⟩ : ∃ j_ : Int, (wrap64 (x5_1 - 1)) = j_ := ⟨_, rfl⟩
    first | rw [hji5] at H | simp only [hji5] at H
    have hji5w : (IntKind.i64.wrap (x5_1 - 1)) = ji5 := (i64_w _).trans hji5
    obtain ⟨c6, H⟩ : (0 ≤ (ji5)) ∧ _ := it_ H
    have c6b0 := decide_eq_true c6
    clear c6
    obtain ⟨c7, H⟩ : ((ji5) < (l0.length : Int)) ∧ _ := it_ H
    have c7b0 := decide_eq_true c7
    clear c7
    by_cases c8 : (rd l0 (ji5)) = 0
    ·rw [if_pos c8] at H
     have c8b0 := beq_iff_eq.mpr c8
     have c8b1 := bne_eq_false_iff_eq.mpr c8
     clear c8
     have H' := ak H
     clear H
     have p393 : 0 ≤ ((ji5) : Int) := od_
     have q393 : (ji5) < (l0.length : Int) := od_
     obtain ⟨ad393, e393, hx393_0⟩ := Kd.at_int HR0.out (ji5) p393 q393
     cases e393
     replace hx393_0 := (HB.out.cell (World.block_lt_of_cell? w _ hx393_0)).trans hx393_0
     replace p393 := eq_true p393
     replace q393 := eq_true q393
     go_wp2
     go_roundg k1
     case measure => have := HK1.out; omega
     case rel => exact ⟨(ji5), (by first | rfl | (simp; done) | (simp only [← hji5] <;> (first | rfl | simp)) | (simp [*]; done)), H', ⟨by have := HK1.out; omega⟩, ⟨bU_ HB.out⟩⟩
    ·rw [if_neg c8] at H
     have c8b0 := beq_eq_false_iff_ne.mpr c8
     have c8b1 := bne_iff_ne.mpr c8
     obtain ⟨c9, H⟩ : (0 ≤ x5_1) ∧ _ := it_ H
     have c9b0 := eq_true c9
     have c9b1 := decide_eq_true c9
     clear c9
     obtain ⟨c10, H⟩ : (x5_1 ≤ (l0.length : Int)) ∧ _ := it_ H
     have c10b0 := eq_true c10
     have c10b1 := decide_eq_true c10
     clear c10
     obtain ⟨c11, H⟩ : (([] : List Int).length + (l0.take (x5_1 : Int).toNat).length < 35184372088832) ∧ _ := it_ H
     have LMc11 := ak c11
     clear c11
     obtain ⟨y395, hy395⟩ : ∃ y_ : List Int, y_ = (([] : List Int) ++ (l0.take (x5_1 : Int).toNat)) := ⟨_, rfl⟩
     first | rw [Option.bind_some, ← hy395] at H | rw [← hy395] at H
     have Ny395 := ak hy395
     clear hy395
     obtain rfl := Option.some.inj H
     have p393 : 0 ≤ ((ji5) : Int) := od_
     have q393 : (ji5) < (l0.length : Int) := od_
     obtain ⟨ad393, e393, hx393_0⟩ := Kd.at_int HR0.out (ji5) p393 q393
     cases e393
     replace hx393_0 := (HB.out.cell (World.block_lt_of_cell? w _ hx393_0)).trans hx393_0
     replace p393 := eq_true p393
     replace q393 := eq_true q393
     obtain ⟨i012, hi012, _, hsz12, _⟩ := info_parts info44
     obtain ⟨hcut12, hA12, hC12⟩ := print_take_of (P := Tryd.prog) (Value.int .u32) 0 23 44 .i64 Tryd.underlying23 hi012 hsz12 (some ad393) c0 l0 x5_1 od_ od_ HC0.out
     have HR394 := ak (Kd.C_of_reads (h1 := fun _ => rfl) (hA12 _ (Kd.reads_of_C HR0.out)))
     have HC394 := ak hC12
     clear hA12 hC12 hi012 hsz12
     go_wp2_with (first | ((with_reducible refine gate_builtin (b := .append) (xs := #[.tmp 23, .tmp 26]) rfl ?_); at_builtin; refine R_append_rows2 (Kd.int .u32) (w0 := w) w.heap.size rfl (.tmp 23) (.tmp 26) 24 23 44 44 (.int .u32 0) 4 rfl Tryd.underlying24 Tryd.underlying23 info44 rfl (by decide) (by omega) (.slice none 0 0) ([] : List Int) (l0.take (x5_1 : Int).toNat) _ _ _ (fun _ => True) (fun _ => False) rfl rfl ?aO ?aR (fun _ _ h => h) (fun _ h => h.elim) ?aF ?aB ?aS ?aL ?_; (case aR => first | (refine lenEq_ (show (l0.take (x5_1 : Int).toNat).length = x5_1.toNat from (by rw [List.length_take]; have h_ : (x5_1 : Int) ≤ (l0.length : Int) := od_; omega)) ?_; exact cU_ (Kd.C_below HR394.out HB.out)) | (exact cU_ (Kd.C_below HR394.out HB.out))); (case aB => exact (bU_ HB.out)); (case aF => exact (fun _ _ => trivial)); (case aO => exact ((Kd.R_nil _ _ _ _ (fun _ => True)))); (case aS => exact (below_size (bU_ HB.out))); (case aL => have := LMc11.out; have hlx_ := (show (l0.take (x5_1 : Int).toNat).length = x5_1.toNat from (by rw [List.length_take]; have h_ : (x5_1 : Int) ≤ (l0.length : Int) := od_; omega)); omega); intro v396 w13 ho hb hg hat; rw [← Ny395.out] at ho; refine nx2_ (hb) (ho) ?_; clear HB; intro HB HO397; clear ho hb hg hat))
     go_ret
     exact ⟨_, by first | rfl | (simp [errW_none, errW_some] <;> rfl) | (simp only [← hji3, ← hji5]; first | rfl | (simp [errW_none, errW_some] <;> rfl)) | (simp [*, errW_none, errW_some] <;> rfl), rU_ HO397.out, bU_ HB.out⟩
   ·rw [if_neg c4] at H
    have c4b0 : decide (0 < x5_1) = false := decide_eq_false c4
    clear c4
    obtain ⟨c14, H⟩ : (0 ≤ x5_1) ∧ _ := it_ H
    have c14b0 := eq_true c14
    have c14b1 := decide_eq_true c14
    clear c14
    obtain ⟨c15, H⟩ : (x5_1 ≤ (l0.length : Int)) ∧ _ := it_ H
    have c15b0 := eq_true c15
    have c15b1 := decide_eq_true c15
    clear c15
    obtain ⟨c16, H⟩ : (([] : List Int).length + (l0.take (x5_1 : Int).toNat).length < 35184372088832) ∧ _ := it_ H
    have LMc16 := ak c16
    clear c16
    obtain ⟨y399, hy399⟩ : ∃ y_ : List Int, y_ = (([] : List Int) ++ (l0.take (x5_1 : Int).toNat)) := ⟨_, rfl⟩
    first | rw [Option.bind_some, ← hy399] at H | rw [← hy399] at H
    have Ny399 := ak hy399
    clear hy399
    obtain rfl := Option.some.inj H
    obtain ⟨i017, hi017, _, hsz17, _⟩ := info_parts info44
    obtain ⟨hcut17, hA17, hC17⟩ := print_take_of (P := Tryd.prog) (Value.int .u32) 0 23 44 .i64 Tryd.underlying23 hi017 hsz17 A0 c0 l0 x5_1 od_ od_ HC0.out
    have HR398 := ak (Kd.C_of_reads (h1 := fun _ => rfl) (hA17 _ (Kd.reads_of_C HR0.out)))
    have HC398 := ak hC17
    clear hA17 hC17 hi017 hsz17
    go_wp2_with (first | ((with_reducible refine gate_builtin (b := .append) (xs := #[.tmp 23, .tmp 26]) rfl ?_); at_builtin; refine R_append_rows2 (Kd.int .u32) (w0 := w) w.heap.size rfl (.tmp 23) (.tmp 26) 24 23 44 44 (.int .u32 0) 4 rfl Tryd.underlying24 Tryd.underlying23 info44 rfl (by decide) (by omega) (.slice none 0 0) ([] : List Int) (l0.take (x5_1 : Int).toNat) _ _ _ (fun _ => True) (fun _ => False) rfl rfl ?aO ?aR (fun _ _ h => h) (fun _ h => h.elim) ?aF ?aB ?aS ?aL ?_; (case aR => first | (refine lenEq_ (show (l0.take (x5_1 : Int).toNat).length = x5_1.toNat from (by rw [List.length_take]; have h_ : (x5_1 : Int) ≤ (l0.length : Int) := od_; omega)) ?_; exact cU_ (Kd.C_below HR398.out HB.out)) | (exact cU_ (Kd.C_below HR398.out HB.out))); (case aB => exact (bU_ HB.out)); (case aF => exact (fun _ _ => trivial)); (case aO => exact ((Kd.R_nil _ _ _ _ (fun _ => True)))); (case aS => exact (below_size (bU_ HB.out))); (case aL => have := LMc16.out; have hlx_ := (show (l0.take (x5_1 : Int).toNat).length = x5_1.toNat from (by rw [List.length_take]; have h_ : (x5_1 : Int) ≤ (l0.length : Int) := od_; omega)); omega); intro v400 w18 ho hb hg hat; rw [← Ny399.out] at ho; refine nx2_ (hb) (ho) ?_; clear HB; intro HB HO401; clear ho hb hg hat))
    go_ret
    exact ⟨_, by first | rfl | (simp [errW_none, errW_some] <;> rfl) | (simp only [← hji3]; first | rfl | (simp [errW_none, errW_some] <;> rfl)) | (simp [*, errW_none, errW_some] <;> rfl), rU_ HO401.out, bU_ HB.out⟩

end Go.Proofs.YtjjjoepnlhpjdaaDoor.Q

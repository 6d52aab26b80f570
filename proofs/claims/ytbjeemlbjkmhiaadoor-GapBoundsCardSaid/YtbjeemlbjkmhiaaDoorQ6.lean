import Derived.Test.YtbjeemlbjkmhiaaDoorQ0
namespace Go.Proofs.YtbjeemlbjkmhiaaDoor.Q
open Go.RowKit Go.Proofs.YtbjeemlbjkmhiaaDoorW.PrintWords Go.Proofs.YtbjeemlbjkmhiaaDoorW.PrintLast Go.Proofs.YtbjeemlbjkmhiaaDoorW.PrintMore
open Kd (R_mono R_far R_types R_lower R_new' R_newM R_elder' R_base R_lt R_slice R_reads' R_V R_lit R_make V_mono V_elder' V_slice V_reads' V_mk C_below F_below C_F R_drew V_drew C_of_reads heap_int)
attribute [local go_sem] max2_int min2_int max_two min_two max_three min_three max_four min_four   -- for this text's walks alone
set_option linter.unusedVariables false
set_option linter.unusedSimpArgs false

mutual
def attestorref11_Choose.j0 : Nat → Int → Int → Bool → Option (Int)
 | 0, _, _, _ => none
 | k + 1, x0, x1, x13 => if x13 = true then (some 0) else (attestorref11_Choose.l0 k x0 x1 1 0)
def attestorref11_Choose.l0 : Nat → Int → Int → Int → Int → Option (Int)
 | 0, _, _, _, _ => none
 | k + 1, x0, x1, x5, x6 => if x6 < x1 then (if (wrap64 (x6 + 1)) = 0 then (none) else (attestorref11_Choose.l0 k x0 x1 (wrap64 (Int.tdiv (wrap64 (x5 * (wrap64 (x0 - x6)))) (wrap64 (x6 + 1)))) (wrap64 (x6 + 1)))) else (some x5)
end
def attestorref11_Choose.f (k : Nat) (a0 : Int) (a1 : Int) : Option (Int) := if a1 < 0 then (attestorref11_Choose.j0 k a0 a1 true) else (attestorref11_Choose.j0 k a0 a1 (decide (a1 > a0)))
theorem attestorref11_Choose.mono_l : ∀ k, (∀ y0 y1 y2, LeO (attestorref11_Choose.j0 k y0 y1 y2) (attestorref11_Choose.j0 (k + 1) y0 y1 y2)) ∧ (∀ y0 y1 y2 y3, LeO (attestorref11_Choose.l0 k y0 y1 y2 y3) (attestorref11_Choose.l0 (k + 1) y0 y1 y2 y3))
 | 0 => ⟨fun _ _ _ r h => by simp [attestorref11_Choose.j0] at h, fun _ _ _ _ r h => by simp [attestorref11_Choose.l0] at h⟩
 | k + 1 => by
  obtain ⟨ih0, ih1⟩ := attestorref11_Choose.mono_l k
  refine ⟨?_, ?_⟩
  ·intro y0 y1 y2
   unfold attestorref11_Choose.j0
   with_reducible repeat' first | apply ih0 | apply ih1 | exact LeO.refl _ | exact LeO.none _ | refine LeO.ite ?_ ?_ | refine LeO.bind ?_ (fun _ => ?_)
  intro y0 y1 y2 y3
  unfold attestorref11_Choose.l0
  with_reducible repeat' first | apply ih0 | apply ih1 | exact LeO.refl _ | exact LeO.none _ | refine LeO.ite ?_ ?_ | refine LeO.bind ?_ (fun _ => ?_)
theorem attestorref11_Choose.mono : ∀ a0 a1 k, LeO (attestorref11_Choose.f k a0 a1) (attestorref11_Choose.f (k + 1) a0 a1) := by
 intro a0 a1 k
 obtain ⟨ih0, ih1⟩ := attestorref11_Choose.mono_l k
 unfold attestorref11_Choose.f
 with_reducible repeat' first | apply ih0 | apply ih1 | exact LeO.refl _ | exact LeO.none _ | refine LeO.ite ?_ ?_ | refine LeO.bind ?_ (fun _ => ?_)
set_option maxHeartbeats 8000000 in
set_option maxRecDepth 100000 in
theorem attestorref11_Choose.calls (k : Nat) (a0 : Int) (a1 : Int) (r : Int) (w : World) (h : attestorref11_Choose.f k a0 a1 = some r) :
  Calls Tryd.prog 52 #[.int .i64 a0, .int .i64 a1] w fun e w' => e = .returned (.int .i64 r) ∧ Drawn0 w w' := by
 have H := h
 clear h
 unfold attestorref11_Choose.f at H
 have HC3 := ak H
 clear H
 go_enter Tryd.func52, Tryd.ntmps52
 go_upto_region 1 with (fail)
 go_cut [13] (fun v13 wc => ∃ (kq : Nat) (x13_2 : Bool), v13 = .bool x13_2 ∧ Aside0 (attestorref11_Choose.j0 kq a0 a1 x13_2 = some r) ∧ Aside0 (kq ≤ k) ∧ Drawn0 w wc)
 case first =>
  have H := HC3.out
  clear HC3
  by_cases c4 : a1 < 0
  ·rw [if_pos c4] at H
   have c4b0 := decide_eq_true c4
   clear c4
   (first | rw [c4b0] | (simp only [i64_w, i32_w]; rw [c4b0]) | rw [c4b1] | skip)
   have H' := ak H
   clear H
   go_wp2
   go_meet
   case rel => exact ⟨_, (true), gb_, H', ⟨by first | omega | exact Nat.le_refl _⟩, by repeat (first | exact Drawn0.refl _ | apply Drawn0.step)⟩
  rw [if_neg c4] at H
  have c4b0 := decide_eq_false c4
  clear c4
  (first | rw [c4b0] | (simp only [i64_w, i32_w]; rw [c4b0]) | rw [c4b1] | skip)
  have H' := ak H
  clear H
  go_wp2
  go_meet
  case rel => exact ⟨_, (decide (a1 > a0)), gb_, H', ⟨by first | omega | exact Nat.le_refl _⟩, by repeat (first | exact Drawn0.refl _ | apply Drawn0.step)⟩
 case rest =>
  clear HC3
  (try clear p2); (try clear c4); (try clear c4b0); (try clear c4b1)
  obtain ⟨kq, x13_2, rfl, HA, HJ2, ⟨mc2, rfl⟩⟩ := hcut
  cases kq with
  | zero => exact absurd HA.out (by simp [attestorref11_Choose.j0])
  | succ kj2 =>
   have H := HA.out
   clear HA
   simp only [attestorref11_Choose.j0] at H
   by_cases c5 : x13_2 = true
   ·subst c5
    rw [if_pos rfl] at H
    obtain rfl := Option.some.inj H
    go_wp2
    go_ret
    exact ⟨by first | rfl | (simp; done) | (simp [*]; done), by repeat (first | exact Drawn0.refl _ | apply Drawn0.step)⟩
   replace c5 := Bool.eq_false_iff.mpr c5
   subst c5
   rw [if_neg (show ¬ (false = true) by decide)] at H
   have H' := ak H
   clear H
   go_wp2
   go_loopg [5, 6] kj2 (fun kq v5 v6 w' => ∃ (x5_2 : Int) (x6_2 : Int), v5 = .int .i64 x5_2 ∧ v6 = .int .i64 x6_2 ∧ Aside0 (attestorref11_Choose.l0 kq a0 a1 x5_2 x6_2 = some r) ∧ Aside0 (kq ≤ kj2) ∧ Drawn0 w w')
   case atStart => exact ⟨(1), (0), gb_, gb_, H', ⟨Nat.le_refl _⟩, by repeat (first | exact Drawn0.refl _ | apply Drawn0.step)⟩
   case round =>
    clear H'
    (try clear c2); (try clear p2); (try clear c4); (try clear c4b0); (try clear c4b1); (try clear c5)
    obtain ⟨x5_2, x6_2, rfl, rfl, HA, HK2, ⟨m2, rfl⟩⟩ := hrel
    cases gk with
    | zero => exact absurd HA.out (by simp [attestorref11_Choose.l0])
    | succ k2 =>
     have H := HA.out
     clear HA
     simp only [attestorref11_Choose.l0] at H
     by_cases c6 : x6_2 < a1
     ·rw [if_pos c6] at H
      have c6b0 := decide_eq_true c6
      clear c6
      by_cases c7 : (wrap64 (x6_2 + 1)) = 0
      ·rw [if_pos c7] at H
       exact absurd H (by simp)
      rw [if_neg c7] at H
      have c7b0 := beq_eq_false_iff_ne.mpr c7
      have c7b1 := bne_iff_ne.mpr c7
      have H' := ak H
      clear H
      go_wp2
      go_roundg k2
      case measure => have := HJ2.out; have := HK2.out; omega
      case rel => exact ⟨(wrap64 (Int.tdiv (wrap64 (x5_2 * (wrap64 (a0 - x6_2)))) (wrap64 (x6_2 + 1)))), (wrap64 (x6_2 + 1)), gb_, gb_, H', ⟨by have := HJ2.out; have := HK2.out; omega⟩, by repeat (first | exact Drawn0.refl _ | apply Drawn0.step)⟩
     rw [if_neg c6] at H
     have c6b0 := decide_eq_false c6
     clear c6
     obtain rfl := Option.some.inj H
     go_wp2
     go_ret
     exact ⟨by first | rfl | (simp; done) | (simp [*]; done), by repeat (first | exact Drawn0.refl _ | apply Drawn0.step)⟩

def attestorref02_trim.l0 : Nat → List Int → Int → Option (List Int)
 | 0, _, _ => none
 | k + 1, x0, x3 => if x3 > 0 then (if 0 ≤ (wrap64 (x3 - 1)) then (if (wrap64 (x3 - 1)) < (x0.length : Int) then (if (rd x0 (wrap64 (x3 - 1))) = 0 then (attestorref02_trim.l0 k x0 (wrap64 (x3 - 1))) else (if 0 ≤ x3 then (if x3 ≤ (x0.length : Int) then (if ([] : List Int).length + (x0.take (x3 : Int).toNat).length < 35184372088832 then (some (([] : List Int) ++ (x0.take (x3 : Int).toNat))) else (none)) else (none)) else (none))) else (none)) else (none)) else (if 0 ≤ x3 then (if x3 ≤ (x0.length : Int) then (if ([] : List Int).length + (x0.take (x3 : Int).toNat).length < 35184372088832 then (some (([] : List Int) ++ (x0.take (x3 : Int).toNat))) else (none)) else (none)) else (none))
def attestorref02_trim.f (k : Nat) (l0 : List Int) : Option (List Int) := attestorref02_trim.l0 k l0 (l0.length : Int)
set_option maxHeartbeats 8000000 in
set_option maxRecDepth 100000 in
theorem attestorref02_trim.calls (k : Nat) (A0 : Option Addr) (c0 : Nat) (l0 : List Int) (r : List Int) (w : World) (hr0 : Kd.C (Kd.int .u32) w A0 l0.length l0) (hc0 : l0.length ≤ c0) (h : attestorref02_trim.f k l0 = some r) :
  Calls Tryd.prog 126 #[.slice A0 l0.length c0] w fun e w' => ∃ v0_ : Value, e = .returned (v0_) ∧ Kd.R (Kd.int .u32) 115 w' w.heap.size (fun _ => True) v0_ r ∧ Below w.heap.size w w' := by
 have HR0 := ak hr0
 have HC0 := ak hc0
 clear hr0 hc0
 have HB := ak (Below.refl w.heap.size w)
 have H : (attestorref02_trim.l0 k l0 (l0.length : Int)) = some r := h
 clear h
 have H' := ak H
 clear H
 go_enter Tryd.func126, Tryd.ntmps126
 go_wp2
 go_loopg [3] k (fun kq v3 w' => ∃ (x3_1 : Int), v3 = .int .i64 x3_1 ∧ Aside0 (attestorref02_trim.l0 kq l0 x3_1 = some r) ∧ Aside0 (kq ≤ k) ∧ Aside0 (Below w.heap.size w w'))
 case atStart => exact ⟨((l0.length : Int)), gb_, H', ⟨Nat.le_refl _⟩, ⟨bU_ HB.out⟩⟩
 case round =>
  clear H'
  try clear c1
  obtain ⟨x3_1, rfl, HA, HK1, HB⟩ := hrel
  cases gk with
  | zero => exact absurd HA.out (by simp [attestorref02_trim.l0])
  | succ k1 =>
   have H := HA.out
   clear HA
   simp only [attestorref02_trim.l0] at H
   by_cases c2 : x3_1 > 0
   ·rw [if_pos c2] at H
    have c2b0 : decide (0 < x3_1) = true := decide_eq_true c2
    clear c2
    obtain ⟨ji3, hji3⟩ : ∃ j_ : Int, (wrap64 (x3_1 - 1)) = j_ := ⟨_, rfl⟩
    first | rw [hji3] at H | simp only [hji3] at H
    have hji3w : (IntKind.i64.wrap (x3_1 - 1)) = ji3 := (i64_w _).trans hji3
    obtain ⟨c4, H⟩ : (0 ≤ (ji3)) ∧ _ := it_ H
    have c4b0 := decide_eq_true c4
    clear c4
    obtain ⟨c5, H⟩ : ((ji3) < (l0.length : Int)) ∧ _ := it_ H
    have c5b0 := decide_eq_true c5
    clear c5
    by_cases c6 : (rd l0 (ji3)) = 0
    ·rw [if_pos c6] at H
     have c6b0 := beq_iff_eq.mpr c6
     have c6b1 := bne_eq_false_iff_eq.mpr c6
     clear c6
     have H' := ak H
     clear H
     have p358 : 0 ≤ ((ji3) : Int) := od_
     have q358 : (ji3) < (l0.length : Int) := od_
     obtain ⟨ad358, e358, hx358_0⟩ := Kd.at_int HR0.out (ji3) p358 q358
     cases e358
     replace hx358_0 := (HB.out.cell (World.block_lt_of_cell? w _ hx358_0)).trans hx358_0
     replace p358 := eq_true p358
     replace q358 := eq_true q358
     go_wp2
     go_roundg k1
     case measure => have := HK1.out; omega
     case rel => exact ⟨(ji3), (by first | rfl | (simp; done) | (simp only [← hji3] <;> (first | rfl | simp)) | (simp [*]; done)), H', ⟨by have := HK1.out; omega⟩, ⟨bU_ HB.out⟩⟩
    rw [if_neg c6] at H
    have c6b0 := beq_eq_false_iff_ne.mpr c6
    have c6b1 := bne_iff_ne.mpr c6
    obtain ⟨c7, H⟩ : (0 ≤ x3_1) ∧ _ := it_ H
    have c7b0 := eq_true c7
    have c7b1 := decide_eq_true c7
    clear c7
    obtain ⟨c8, H⟩ : (x3_1 ≤ (l0.length : Int)) ∧ _ := it_ H
    have c8b0 := eq_true c8
    have c8b1 := decide_eq_true c8
    clear c8
    obtain ⟨c9, H⟩ : (([] : List Int).length + (l0.take (x3_1 : Int).toNat).length < 35184372088832) ∧ _ := it_ H
    have LMc9 := ak c9
    clear c9
    obtain ⟨y360, hy360⟩ : ∃ y_ : List Int, y_ = (([] : List Int) ++ (l0.take (x3_1 : Int).toNat)) := ⟨_, rfl⟩
    first | rw [Option.bind_some, ← hy360] at H | rw [← hy360] at H
    have Ny360 := ak hy360
    clear hy360
    obtain rfl := Option.some.inj H
    have p358 : 0 ≤ ((ji3) : Int) := od_
    have q358 : (ji3) < (l0.length : Int) := od_
    obtain ⟨ad358, e358, hx358_0⟩ := Kd.at_int HR0.out (ji3) p358 q358
    cases e358
    replace hx358_0 := (HB.out.cell (World.block_lt_of_cell? w _ hx358_0)).trans hx358_0
    replace p358 := eq_true p358
    replace q358 := eq_true q358
    obtain ⟨i010, hi010, _, hsz10, _⟩ := info_parts info115
    obtain ⟨hcut10, hA10, hC10⟩ := print_take_of (P := Tryd.prog) (Value.int .u32) 0 23 115 .i64 Tryd.underlying23 hi010 hsz10 (some ad358) c0 l0 x3_1 od_ od_ HC0.out
    have HR359 := ak (C_of_reads (h1 := fun _ => rfl) (hA10 _ (Kd.reads_of_C HR0.out)))
    have HC359 := ak hC10
    clear hA10 hC10 hi010 hsz10
    go_wp2_with (first | ((with_reducible refine gate_builtin (b := .append) (xs := #[.tmp 19, .tmp 22]) rfl ?_); at_builtin; refine R_append_rows2 (Kd.int .u32) (w0 := w) w.heap.size rfl (.tmp 19) (.tmp 22) 24 23 115 115 (.int .u32 0) 4 rfl Tryd.underlying24 Tryd.underlying23 info115 rfl (by decide) (by omega) (.slice none 0 0) ([] : List Int) (l0.take (x3_1 : Int).toNat) _ _ _ (fun _ => True) (fun _ => False) rfl rfl ?aO ?aR (fun _ _ h => h) (fun _ h => h.elim) ?aF ?aB ?aS ?aL ?_; (case aR => first | (refine lenEq_ (show (l0.take (x3_1 : Int).toNat).length = x3_1.toNat from (by rw [List.length_take]; have h_ : (x3_1 : Int) ≤ (l0.length : Int) := od_; omega)) ?_; exact cU_ (C_below HR359.out HB.out)) | (exact cU_ (C_below HR359.out HB.out))); (case aB => exact (bU_ HB.out)); (case aF => exact (fun _ _ => trivial)); (case aO => exact ((Kd.R_nil _ _ _ _ (fun _ => True)))); (case aS => exact (below_size (bU_ HB.out))); (case aL => have := LMc9.out; have hlx_ := (show (l0.take (x3_1 : Int).toNat).length = x3_1.toNat from (by rw [List.length_take]; have h_ : (x3_1 : Int) ≤ (l0.length : Int) := od_; omega)); omega); intro v361 w11 ho hb hg hat; rw [← Ny360.out] at ho; refine nx2_ (hb) (ho) ?_; clear HB; intro HB HO362; clear ho hb hg hat))
    go_ret
    exact ⟨_, by first | rfl | (simp [errW_none, errW_some] <;> rfl) | (simp only [← hji3]; first | rfl | (simp [errW_none, errW_some] <;> rfl)) | (simp [*, errW_none, errW_some] <;> rfl), rU_ HO362.out, bU_ HB.out⟩
   rw [if_neg c2] at H
   have c2b0 : decide (0 < x3_1) = false := decide_eq_false c2
   clear c2
   obtain ⟨c12, H⟩ : (0 ≤ x3_1) ∧ _ := it_ H
   have c12b0 := eq_true c12
   have c12b1 := decide_eq_true c12
   clear c12
   obtain ⟨c13, H⟩ : (x3_1 ≤ (l0.length : Int)) ∧ _ := it_ H
   have c13b0 := eq_true c13
   have c13b1 := decide_eq_true c13
   clear c13
   obtain ⟨c14, H⟩ : (([] : List Int).length + (l0.take (x3_1 : Int).toNat).length < 35184372088832) ∧ _ := it_ H
   have LMc14 := ak c14
   clear c14
   obtain ⟨y364, hy364⟩ : ∃ y_ : List Int, y_ = (([] : List Int) ++ (l0.take (x3_1 : Int).toNat)) := ⟨_, rfl⟩
   first | rw [Option.bind_some, ← hy364] at H | rw [← hy364] at H
   have Ny364 := ak hy364
   clear hy364
   obtain rfl := Option.some.inj H
   obtain ⟨i015, hi015, _, hsz15, _⟩ := info_parts info115
   obtain ⟨hcut15, hA15, hC15⟩ := print_take_of (P := Tryd.prog) (Value.int .u32) 0 23 115 .i64 Tryd.underlying23 hi015 hsz15 A0 c0 l0 x3_1 od_ od_ HC0.out
   have HR363 := ak (C_of_reads (h1 := fun _ => rfl) (hA15 _ (Kd.reads_of_C HR0.out)))
   have HC363 := ak hC15
   clear hA15 hC15 hi015 hsz15
   go_wp2_with (first | ((with_reducible refine gate_builtin (b := .append) (xs := #[.tmp 19, .tmp 22]) rfl ?_); at_builtin; refine R_append_rows2 (Kd.int .u32) (w0 := w) w.heap.size rfl (.tmp 19) (.tmp 22) 24 23 115 115 (.int .u32 0) 4 rfl Tryd.underlying24 Tryd.underlying23 info115 rfl (by decide) (by omega) (.slice none 0 0) ([] : List Int) (l0.take (x3_1 : Int).toNat) _ _ _ (fun _ => True) (fun _ => False) rfl rfl ?aO ?aR (fun _ _ h => h) (fun _ h => h.elim) ?aF ?aB ?aS ?aL ?_; (case aR => first | (refine lenEq_ (show (l0.take (x3_1 : Int).toNat).length = x3_1.toNat from (by rw [List.length_take]; have h_ : (x3_1 : Int) ≤ (l0.length : Int) := od_; omega)) ?_; exact cU_ (C_below HR363.out HB.out)) | (exact cU_ (C_below HR363.out HB.out))); (case aB => exact (bU_ HB.out)); (case aF => exact (fun _ _ => trivial)); (case aO => exact ((Kd.R_nil _ _ _ _ (fun _ => True)))); (case aS => exact (below_size (bU_ HB.out))); (case aL => have := LMc14.out; have hlx_ := (show (l0.take (x3_1 : Int).toNat).length = x3_1.toNat from (by rw [List.length_take]; have h_ : (x3_1 : Int) ≤ (l0.length : Int) := od_; omega)); omega); intro v365 w16 ho hb hg hat; rw [← Ny364.out] at ho; refine nx2_ (hb) (ho) ?_; clear HB; intro HB HO366; clear ho hb hg hat))
   go_ret
   exact ⟨_, eW_, rU_ HO366.out, bU_ HB.out⟩

def attestorref02_limb.f (l0 : List Int) (a1 : Int) : Option (Int) := if a1 < (l0.length : Int) then (if 0 ≤ a1 then (some (IntKind.u64.wrap (rd l0 a1))) else (none)) else (some 0)
set_option maxHeartbeats 8000000 in
set_option maxRecDepth 100000 in
theorem attestorref02_limb.calls (A0 : Option Addr) (c0 : Nat) (l0 : List Int) (a1 : Int) (r : Int) (w : World) (hr0 : Kd.C (Kd.int .u32) w A0 l0.length l0) (hc0 : l0.length ≤ c0) (h : attestorref02_limb.f l0 a1 = some r) :
  Calls Tryd.prog 129 #[.slice A0 l0.length c0, .int .i64 a1] w fun e w' => e = .returned (.int .u64 r) ∧ Drawn0 w w' := by
 have HR0 := ak hr0
 have HC0 := ak hc0
 clear hr0 hc0
 have H := h
 clear h
 unfold attestorref02_limb.f at H
 by_cases c3 : a1 < (l0.length : Int)
 ·rw [if_pos c3] at H
  have c3b0 := decide_eq_true c3
  clear c3
  obtain ⟨c4, H⟩ : (0 ≤ a1) ∧ _ := it_ H
  have c4b0 := decide_eq_true c4
  clear c4
  obtain rfl := Option.some.inj H
  have p367 : 0 ≤ (a1 : Int) := od_
  have q367 : a1 < (l0.length : Int) := od_
  obtain ⟨ad367, e367, hx367_0⟩ := Kd.at_int HR0.out a1 p367 q367
  cases e367
  replace p367 := eq_true p367
  replace q367 := eq_true q367
  go_enter Tryd.func129, Tryd.ntmps129
  go_wp2
  go_ret
  exact ⟨by first | rfl | (simp; done) | (simp [*]; done), by repeat (first | exact Drawn0.refl _ | apply Drawn0.step)⟩
 rw [if_neg c3] at H
 have c3b0 := decide_eq_false c3
 clear c3
 obtain rfl := Option.some.inj H
 go_enter Tryd.func129, Tryd.ntmps129
 go_wp2
 go_ret
 exact ⟨by first | rfl | (simp; done) | (simp [*]; done), by repeat (first | exact Drawn0.refl _ | apply Drawn0.step)⟩

def attestorref02_sum.l0 : Nat → List Int → List Int → List Int → Int → Int → Option (List Int)
 | 0, _, _, _, _, _ => none
 | k + 1, x0, x1, x5, x6, x7 => if x7 < (wrap64 ((mx (x0.length : Int) (x1.length : Int)) + 1)) then ((attestorref02_limb.f x0 x7).bind fun t368 => ((attestorref02_limb.f x1 x7).bind fun t369 => (if x5.length < 35184372088832 then (attestorref02_sum.l0 k x0 x1 (x5 ++ [(Int.tmod (IntKind.u64.wrap ((IntKind.u64.wrap (t368 + t369)) + x6)) 4294967296) % 4294967296]) (IntKind.u64.wrap (Int.tdiv (IntKind.u64.wrap ((IntKind.u64.wrap (t368 + t369)) + x6)) 4294967296)) (wrap64 (x7 + 1))) else (none)))) else ((attestorref02_trim.f k x5).bind fun t373 => (some t373))
def attestorref02_sum.f (k : Nat) (l0 : List Int) (l1 : List Int) : Option (List Int) := attestorref02_sum.l0 k l0 l1 ([] : List Int) 0 0
set_option maxHeartbeats 8000000 in
set_option maxRecDepth 100000 in
theorem attestorref02_sum.calls (k : Nat) (A0 : Option Addr) (c0 : Nat) (l0 : List Int) (A1 : Option Addr) (c1 : Nat) (l1 : List Int) (r : List Int) (w : World) (hr0 : Kd.C (Kd.int .u32) w A0 l0.length l0) (hc0 : l0.length ≤ c0) (hr1 : Kd.C (Kd.int .u32) w A1 l1.length l1) (hc1 : l1.length ≤ c1) (h : attestorref02_sum.f k l0 l1 = some r) :
  Calls Tryd.prog 105 #[.slice A0 l0.length c0, .slice A1 l1.length c1] w fun e w' => ∃ v0_ : Value, e = .returned (v0_) ∧ Kd.R (Kd.int .u32) 115 w' w.heap.size (fun _ => True) v0_ r ∧ Below w.heap.size w w' := by
 have HR0 := ak hr0
 have HC0 := ak hc0
 clear hr0 hc0
 have HR1 := ak hr1
 have HC1 := ak hc1
 clear hr1 hc1
 have HB := ak (Below.refl w.heap.size w)
 have H : (attestorref02_sum.l0 k l0 l1 ([] : List Int) 0 0) = some r := h
 clear h
 have H' := ak H
 clear H
 go_enter Tryd.func105, Tryd.ntmps105
 go_wp2
 go_loopg [5, 6, 7] k (fun kq v5 v6 v7 w' => ∃ (x5_1 : List Int) (x6_1 : Int) (x7_1 : Int), v6 = .int .u64 x6_1 ∧ v7 = .int .i64 x7_1 ∧ Aside0 (attestorref02_sum.l0 kq l0 l1 x5_1 x6_1 x7_1 = some r) ∧ Aside0 (kq ≤ k) ∧ Aside0 (Kd.R (Kd.int .u32) 115 w' w.heap.size (fun _ => True) v5 x5_1) ∧ Aside0 (Below w.heap.size w w'))
 case atStart => exact ⟨(([] : List Int)), (0), (0), gb_, gb_, H', ⟨Nat.le_refl _⟩, ⟨by first | exact Kd.R_nil _ _ _ _ _ | exact Kd.N_nil _ _ _ _ _ | exact Kd.V_nil _ _ _ _ _ | exact Kd.Q_nil _ _ _ _ _ | exact Kd.S_nil _ _ _ _ _⟩, ⟨bU_ HB.out⟩⟩
 case round =>
  clear H'
  (try clear c1); (try clear p2)
  obtain ⟨x5_1, x6_1, x7_1, rfl, rfl, HA, HK1, HO_5, HB⟩ := hrel
  cases gk with
  | zero => exact absurd HA.out (by simp [attestorref02_sum.l0])
  | succ k1 =>
   have H := HA.out
   clear HA
   simp only [attestorref02_sum.l0] at H
   obtain ⟨ji3, hji3⟩ : ∃ j_ : Int, (mx (l0.length : Int) (l1.length : Int)) = j_ := ⟨_, rfl⟩
   first | rw [hji3] at H | simp only [hji3] at H
   have hji3_ : (if (l0.length : Int) < (l1.length : Int) then (l1.length : Int) else (l0.length : Int)) = ji3 := hji3
   have hji3n : (if l0.length < l1.length then (l1.length : Int) else (l0.length : Int)) = ji3 := by rw [← hji3_]; by_cases c_ : l0.length < l1.length; exact (if_pos c_).trans (if_pos (Int.ofNat_lt.2 c_)).symm; exact (if_neg c_).trans (if_neg (fun q_ => c_ (Int.ofNat_lt.1 q_))).symm
   by_cases c4 : x7_1 < (wrap64 ((ji3) + 1))
   ·rw [if_pos c4] at H
    have c4b0 := decide_eq_true c4
    clear c4
    revert H
    refine bd_ fun t368 A5 H => ?_
    revert H
    refine bd_ fun t369 A6 H => ?_
    obtain ⟨c7, H⟩ : (x5_1.length < 35184372088832) ∧ _ := it_ H
    have LMc7 := ak c7
    clear c7
    obtain ⟨y370, hy370⟩ : ∃ y_ : List Int, y_ = (x5_1 ++ [(Int.tmod (IntKind.u64.wrap ((IntKind.u64.wrap (t368 + t369)) + x6_1)) 4294967296) % 4294967296]) := ⟨_, rfl⟩
    first | rw [Option.bind_some, ← hy370] at H | rw [← hy370] at H
    have Ny370 := ak hy370
    clear hy370
    have H' := ak H
    clear H
    go_wp2_with (first | ((with_reducible refine gate_callee (f := 129) rfl ?_); refine gl_ (some 21) Tryd.func129 #[.slice A0 l0.length c0, .int .i64 x7_1] ?_; (with_reducible refine (attestorref02_limb.calls _ _ l0 x7_1 t368 _ ?side1 ?side2 A5.out).mono ?_); (case side1 => exact cU_ (C_below HR0.out HB.out)); (case side2 => exact HC0.out); rintro e w' ⟨rfl, ⟨nd, rfl⟩⟩; refine ⟨_, rfl, ?_⟩) | ((with_reducible refine gate_callee (f := 129) rfl ?_); refine gl_ (some 24) Tryd.func129 #[.slice A1 l1.length c1, .int .i64 x7_1] ?_; (with_reducible refine (attestorref02_limb.calls _ _ l1 x7_1 t369 _ ?side1 ?side2 A6.out).mono ?_); (case side1 => exact (C_below HR1.out (bU_ HB.out))); (case side2 => exact HC1.out); rintro e w' ⟨rfl, ⟨nd, rfl⟩⟩; refine ⟨_, rfl, ?_⟩) | ((with_reducible refine gate_builtin (b := .append) (xs := #[.tmp 28, .tmp 32]) rfl ?_); at_builtin; refine Kd.R_append (Kd.int .u32) (w0 := w) w.heap.size rfl (.tmp 28) (.tmp 32) 23 115 (.int .u32 0) 4 rfl Tryd.underlying23 info115 rfl (by decide) (by omega) u5 x5_1 ((Int.tmod (IntKind.u64.wrap ((IntKind.u64.wrap (t368 + t369)) + x6_1)) 4294967296) % 4294967296) [.int .u32 ((Int.tmod (IntKind.u64.wrap ((IntKind.u64.wrap (t368 + t369)) + x6_1)) 4294967296) % 4294967296)] (fun _ => True) (fun _ => False) rfl rfl ?aP (fun _ hk => hk.elim) ?aF ?aO ?aB ?aS ?aL ?_; (case aP => exact rfl); (case aB => exact (bU_ HB.out)); (case aF => exact (fun _ _ => trivial)); (case aO => exact (rU_ HO_5.out)); (case aS => exact (below_size (bU_ HB.out))); (case aL => have := LMc7.out; omega); intro v371 w8 ho hb hg hat; rw [← Ny370.out] at ho; refine nx2_ (hb) (ho) ?_; clear HB HO_5; intro HB HO372; clear ho hb hg hat))
    go_roundg k1
    case measure => have := HK1.out; omega
    case rel => exact ⟨(y370), (IntKind.u64.wrap (Int.tdiv (IntKind.u64.wrap ((IntKind.u64.wrap (t368 + t369)) + x6_1)) 4294967296)), (wrap64 (x7_1 + 1)), gb_, gb_, H', ⟨by have := HK1.out; omega⟩, ⟨rU_ HO372.out⟩, ⟨bU_ HB.out⟩⟩
   rw [if_neg c4] at H
   have c4b0 := decide_eq_false c4
   clear c4
   revert H
   refine bd_ fun t373 A9 H => ?_
   obtain rfl := Option.some.inj H
   obtain ⟨Ao10, co10, eo10⟩ := R_slice HO_5.out
   subst eo10
   go_wp2_with (first | ((with_reducible refine gate_callee (f := 126) rfl ?_); refine gl_ (some 37) Tryd.func126 #[.slice Ao10 x5_1.length co10] ?_; (with_reducible refine (attestorref02_trim.calls k1 _ _ x5_1 t373 _ ?side1 ?side2 A9.out).mono ?_); (case side1 => exact cU_ ((R_reads' HO_5.out).2.2)); (case side2 => exact (R_reads' HO_5.out).2.1); rintro e w11 ⟨v374, rfl, ho0, hb⟩; refine ⟨_, rfl, ?_⟩; refine nx3_ (R_elder' (rU_ HO_5.out) (R_base ho0) hb) (R_lower (R_new' ho0 (R_lt (rU_ HO_5.out))) (below_size (bU_ HB.out))) (below_step (bU_ HB.out) hb) ?_; clear HO_5 HB; intro HO_5 HO375 HB; clear hb ho0))
   go_ret
   exact ⟨_, by first | rfl | (simp [errW_none, errW_some] <;> rfl) | (simp only [← hji3]; first | rfl | (simp [errW_none, errW_some] <;> rfl)) | (simp [*, errW_none, errW_some] <;> rfl), R_mono (rU_ HO375.out) (fun _ hk => trivial), bU_ HB.out⟩

def attestorref02_order.l0 : Nat → List Int → List Int → Int → Option (Int)
 | 0, _, _, _ => none
 | k + 1, x0, x1, x5 => if x5 ≥ 0 then (if 0 ≤ x5 then (if x5 < (x0.length : Int) then (if x5 < (x1.length : Int) then (if (rd x0 x5) < (rd x1 x5) then (some (-1)) else (if (rd x0 x5) > (rd x1 x5) then (some 1) else (attestorref02_order.l0 k x0 x1 (wrap64 (x5 - 1))))) else (none)) else (none)) else (none)) else (some 0)
def attestorref02_order.f (k : Nat) (l0 : List Int) (l1 : List Int) : Option (Int) := if (l0.length : Int) = (l1.length : Int) then (attestorref02_order.l0 k l0 l1 (wrap64 ((l0.length : Int) - 1))) else (if (l0.length : Int) < (l1.length : Int) then (some (-1)) else (some 1))
set_option maxHeartbeats 8000000 in
set_option maxRecDepth 100000 in
theorem attestorref02_order.calls (k : Nat) (A0 : Option Addr) (c0 : Nat) (l0 : List Int) (A1 : Option Addr) (c1 : Nat) (l1 : List Int) (r : Int) (w : World) (hr0 : Kd.C (Kd.int .u32) w A0 l0.length l0) (hc0 : l0.length ≤ c0) (hr1 : Kd.C (Kd.int .u32) w A1 l1.length l1) (hc1 : l1.length ≤ c1) (h : attestorref02_order.f k l0 l1 = some r) :
  Calls Tryd.prog 130 #[.slice A0 l0.length c0, .slice A1 l1.length c1] w fun e w' => e = .returned (.int .i64 r) ∧ Drawn0 w w' := by
 have HR0 := ak hr0
 have HC0 := ak hc0
 clear hr0 hc0
 have HR1 := ak hr1
 have HC1 := ak hc1
 clear hr1 hc1
 have H := h
 clear h
 unfold attestorref02_order.f at H
 by_cases c3 : (l0.length : Int) = (l1.length : Int)
 ·rw [if_pos c3] at H
  have c3b0 := beq_iff_eq.mpr c3
  have c3b1 := bne_eq_false_iff_eq.mpr c3
  have c3b2 : (l0.length == l1.length) = true := by first | simpa using c3 | (simp at c3 ⊢; omega)
  clear c3
  have H' := ak H
  clear H
  go_enter Tryd.func130, Tryd.ntmps130
  go_wp2
  repeat (go_quiet (fail); try go_wp2)
  go_loopg [5] k (fun kq v5 w' => ∃ (x5_1 : Int), v5 = .int .i64 x5_1 ∧ Aside0 (attestorref02_order.l0 kq l0 l1 x5_1 = some r) ∧ Aside0 (kq ≤ k) ∧ Drawn0 w w')
  case atStart => exact ⟨(wrap64 ((l0.length : Int) - 1)), gb_, H', ⟨Nat.le_refl _⟩, by repeat (first | exact Drawn0.refl _ | apply Drawn0.step)⟩
  case round =>
   clear H'
   (try clear c1); (try clear p2); (try clear c3); (try clear c3b0); (try clear c3b1); (try clear c3b2)
   obtain ⟨x5_1, rfl, HA, HK1, ⟨m1, rfl⟩⟩ := hrel
   cases gk with
   | zero => exact absurd HA.out (by simp [attestorref02_order.l0])
   | succ k1 =>
    have H := HA.out
    clear HA
    simp only [attestorref02_order.l0] at H
    by_cases c4 : x5_1 ≥ 0
    ·rw [if_pos c4] at H
     have c4b0 : decide (0 ≤ x5_1) = true := decide_eq_true c4
     clear c4
     obtain ⟨c5, H⟩ : (0 ≤ x5_1) ∧ _ := it_ H
     have c5b0 := decide_eq_true c5
     clear c5
     obtain ⟨c6, H⟩ : (x5_1 < (l0.length : Int)) ∧ _ := it_ H
     have c6b0 := decide_eq_true c6
     clear c6
     obtain ⟨c7, H⟩ : (x5_1 < (l1.length : Int)) ∧ _ := it_ H
     have c7b0 := decide_eq_true c7
     clear c7
     by_cases c8 : (rd l0 x5_1) < (rd l1 x5_1)
     ·rw [if_pos c8] at H
      have c8b0 := decide_eq_true c8
      clear c8
      obtain rfl := Option.some.inj H
      have p376 : 0 ≤ (x5_1 : Int) := od_
      have q376 : x5_1 < (l0.length : Int) := od_
      obtain ⟨ad376, e376, hx376_0⟩ := Kd.at_int HR0.out x5_1 p376 q376
      cases e376
      replace p376 := eq_true p376
      replace q376 := eq_true q376
      have p377 : 0 ≤ (x5_1 : Int) := od_
      have q377 : x5_1 < (l1.length : Int) := od_
      obtain ⟨ad377, e377, hx377_0⟩ := Kd.at_int HR1.out x5_1 p377 q377
      cases e377
      replace p377 := eq_true p377
      replace q377 := eq_true q377
      go_wp2
      repeat (go_quiet (fail); try go_wp2)
      go_ret
      exact ⟨by first | rfl | (simp; done) | (simp [*]; done), by repeat (first | exact Drawn0.refl _ | apply Drawn0.step)⟩
     rw [if_neg c8] at H
     have c8b0 := decide_eq_false c8
     clear c8
     by_cases c9 : (rd l0 x5_1) > (rd l1 x5_1)
     ·rw [if_pos c9] at H
      have c9b0 : decide ((rd l1 x5_1) < (rd l0 x5_1)) = true := decide_eq_true c9
      clear c9
      obtain rfl := Option.some.inj H
      have p376 : 0 ≤ (x5_1 : Int) := od_
      have q376 : x5_1 < (l0.length : Int) := od_
      obtain ⟨ad376, e376, hx376_0⟩ := Kd.at_int HR0.out x5_1 p376 q376
      cases e376
      replace p376 := eq_true p376
      replace q376 := eq_true q376
      have p377 : 0 ≤ (x5_1 : Int) := od_
      have q377 : x5_1 < (l1.length : Int) := od_
      obtain ⟨ad377, e377, hx377_0⟩ := Kd.at_int HR1.out x5_1 p377 q377
      cases e377
      replace p377 := eq_true p377
      replace q377 := eq_true q377
      have p378 : 0 ≤ (x5_1 : Int) := od_
      have q378 : x5_1 < (l0.length : Int) := od_
      obtain ⟨ad378, e378, hx378_0⟩ := Kd.at_int HR0.out x5_1 p378 q378
      obtain rfl : ad376 = ad378 := (by injection e378)
      replace p378 := eq_true p378
      replace q378 := eq_true q378
      have p379 : 0 ≤ (x5_1 : Int) := od_
      have q379 : x5_1 < (l1.length : Int) := od_
      obtain ⟨ad379, e379, hx379_0⟩ := Kd.at_int HR1.out x5_1 p379 q379
      obtain rfl : ad377 = ad379 := (by injection e379)
      replace p379 := eq_true p379
      replace q379 := eq_true q379
      go_wp2
      repeat (go_quiet (fail); try go_wp2)
      go_ret
      exact ⟨by first | rfl | (simp; done) | (simp [*]; done), by repeat (first | exact Drawn0.refl _ | apply Drawn0.step)⟩
     rw [if_neg c9] at H
     have c9b0 : decide ((rd l1 x5_1) < (rd l0 x5_1)) = false := decide_eq_false c9
     clear c9
     have H' := ak H
     clear H
     have p376 : 0 ≤ (x5_1 : Int) := od_
     have q376 : x5_1 < (l0.length : Int) := od_
     obtain ⟨ad376, e376, hx376_0⟩ := Kd.at_int HR0.out x5_1 p376 q376
     cases e376
     replace p376 := eq_true p376
     replace q376 := eq_true q376
     have p377 : 0 ≤ (x5_1 : Int) := od_
     have q377 : x5_1 < (l1.length : Int) := od_
     obtain ⟨ad377, e377, hx377_0⟩ := Kd.at_int HR1.out x5_1 p377 q377
     cases e377
     replace p377 := eq_true p377
     replace q377 := eq_true q377
     have p378 : 0 ≤ (x5_1 : Int) := od_
     have q378 : x5_1 < (l0.length : Int) := od_
     obtain ⟨ad378, e378, hx378_0⟩ := Kd.at_int HR0.out x5_1 p378 q378
     obtain rfl : ad376 = ad378 := (by injection e378)
     replace p378 := eq_true p378
     replace q378 := eq_true q378
     have p379 : 0 ≤ (x5_1 : Int) := od_
     have q379 : x5_1 < (l1.length : Int) := od_
     obtain ⟨ad379, e379, hx379_0⟩ := Kd.at_int HR1.out x5_1 p379 q379
     obtain rfl : ad377 = ad379 := (by injection e379)
     replace p379 := eq_true p379
     replace q379 := eq_true q379
     go_wp2
     repeat (go_quiet (fail); try go_wp2)
     go_roundg k1
     case measure => have := HK1.out; omega
     case rel => exact ⟨(wrap64 (x5_1 - 1)), gb_, H', ⟨by have := HK1.out; omega⟩, by repeat (first | exact Drawn0.refl _ | apply Drawn0.step)⟩
    rw [if_neg c4] at H
    have c4b0 : decide (0 ≤ x5_1) = false := decide_eq_false c4
    clear c4
    obtain rfl := Option.some.inj H
    go_wp2
    repeat (go_quiet (fail); try go_wp2)
    go_ret
    exact ⟨by first | rfl | (simp; done) | (simp [*]; done), by repeat (first | exact Drawn0.refl _ | apply Drawn0.step)⟩
 rw [if_neg c3] at H
 have c3b0 := beq_eq_false_iff_ne.mpr c3
 have c3b1 := bne_iff_ne.mpr c3
 have c3b2 : (l0.length == l1.length) = false := by first | simpa using c3 | (simp at c3 ⊢; omega)
 by_cases c10 : (l0.length : Int) < (l1.length : Int)
 ·rw [if_pos c10] at H
  have c10b0 := decide_eq_true c10
  have c10b1 : decide (l0.length < l1.length) = true := decide_eq_true (Int.ofNat_lt.mp c10)
  clear c10
  obtain rfl := Option.some.inj H
  go_enter Tryd.func130, Tryd.ntmps130
  go_wp2
  repeat (go_quiet (fail); try go_wp2)
  go_ret
  exact ⟨by first | rfl | (simp; done) | (simp [*]; done), by repeat (first | exact Drawn0.refl _ | apply Drawn0.step)⟩
 rw [if_neg c10] at H
 have c10b0 := decide_eq_false c10
 have c10b1 : decide (l0.length < l1.length) = false := decide_eq_false (fun h => c10 (Int.ofNat_lt.mpr h))
 clear c10
 obtain rfl := Option.some.inj H
 go_enter Tryd.func130, Tryd.ntmps130
 go_wp2
 repeat (go_quiet (fail); try go_wp2)
 go_ret
 exact ⟨by first | rfl | (simp; done) | (simp [*]; done), by repeat (first | exact Drawn0.refl _ | apply Drawn0.step)⟩

def attestorref02_even.f (l0 : List Int) : Option (Bool) := if (l0.length : Int) = 0 then (some true) else (if 0 < (l0.length : Int) then (some ((Int.tmod (rd l0 0) 2) == 0)) else (none))
set_option maxHeartbeats 8000000 in
set_option maxRecDepth 100000 in
theorem attestorref02_even.calls (A0 : Option Addr) (c0 : Nat) (l0 : List Int) (r : Bool) (w : World) (hr0 : Kd.C (Kd.int .u32) w A0 l0.length l0) (hc0 : l0.length ≤ c0) (h : attestorref02_even.f l0 = some r) :
  Calls Tryd.prog 145 #[.slice A0 l0.length c0] w fun e w' => e = .returned (.bool r) ∧ Drawn0 w w' := by
 have HR0 := ak hr0
 have HC0 := ak hc0
 clear hr0 hc0
 have H := h
 clear h
 unfold attestorref02_even.f at H
 by_cases c2 : (l0.length : Int) = 0
 ·rw [if_pos c2] at H
  have c2b0 := beq_iff_eq.mpr c2
  have c2b1 := bne_eq_false_iff_eq.mpr c2
  clear c2
  obtain rfl := Option.some.inj H
  go_enter Tryd.func145, Tryd.ntmps145
  go_wp2
  go_ret
  exact ⟨by first | rfl | (simp; done) | (simp [*]; done), by repeat (first | exact Drawn0.refl _ | apply Drawn0.step)⟩
 rw [if_neg c2] at H
 have c2b0 := beq_eq_false_iff_ne.mpr c2
 have c2b1 := bne_iff_ne.mpr c2
 have c2b2 : ¬ (l0 = []) := fun h_ => c2 (by rw [h_]; rfl)
 obtain ⟨c3, H⟩ : (0 < (l0.length : Int)) ∧ _ := it_ H
 have c3b0 := decide_eq_true c3
 have c3b1 : decide (0 < l0.length) = true := decide_eq_true (by omega)
 clear c3
 obtain rfl := Option.some.inj H
 have p380 : 0 ≤ (0 : Int) := (by omega)
 have q380 : 0 < (l0.length : Int) := od_
 obtain ⟨ad380, e380, hx380_0⟩ := Kd.at_int HR0.out 0 p380 q380
 cases e380
 have qi380 : (0 < l0.length) = True := eq_true (by omega)
 (try rw [show ((0 : Int)).toNat = 0 from rfl] at hx380_0)
 (try rw [Addr.add_zero'] at hx380_0)
 replace p380 := eq_true p380
 replace q380 := eq_true q380
 go_enter Tryd.func145, Tryd.ntmps145
 go_wp2
 go_ret
 exact ⟨by first | rfl | (simp; done) | (simp [*]; done), by repeat (first | exact Drawn0.refl _ | apply Drawn0.step)⟩

def attestorref02_half.l0 : Nat → List Int → List Int → Int → Int → Option (List Int)
 | 0, _, _, _, _ => none
 | k + 1, x0, x3, x4, x5 => if x5 ≥ 0 then (if 0 ≤ x5 then (if x5 < (x0.length : Int) then (if x5 < (x3.length : Int) then (attestorref02_half.l0 k x0 (x3.set (x5 : Int).toNat ((((Int.tdiv (rd x0 x5) 2) % 4294967296) + x4) % 4294967296)) (((Int.tmod (rd x0 x5) 2) * 2147483648) % 4294967296) (wrap64 (x5 - 1))) else (none)) else (none)) else (none)) else ((attestorref02_trim.f k x3).bind fun t387 => (some t387))
def attestorref02_half.f (k : Nat) (l0 : List Int) : Option (List Int) := if 0 ≤ (l0.length : Int) then (if ((l0.length : Int) : Int).toNat ≤ 70368744177664 then (attestorref02_half.l0 k l0 (List.replicate ((l0.length : Int) : Int).toNat 0) 0 (wrap64 ((l0.length : Int) - 1))) else (none)) else (none)
set_option maxHeartbeats 8000000 in
set_option maxRecDepth 100000 in
theorem attestorref02_half.calls (k : Nat) (A0 : Option Addr) (c0 : Nat) (l0 : List Int) (r : List Int) (w : World) (hr0 : Kd.C (Kd.int .u32) w A0 l0.length l0) (hc0 : l0.length ≤ c0) (h : attestorref02_half.f k l0 = some r) :
  Calls Tryd.prog 146 #[.slice A0 l0.length c0] w fun e w' => ∃ v0_ : Value, e = .returned (v0_) ∧ Kd.R (Kd.int .u32) 115 w' w.heap.size (fun _ => True) v0_ r ∧ Below w.heap.size w w' := by
 have HR0 := ak hr0
 have HC0 := ak hc0
 clear hr0 hc0
 have HB := ak (Below.refl w.heap.size w)
 have H := h
 clear h
 unfold attestorref02_half.f at H
 obtain ⟨c2, H⟩ : (0 ≤ (l0.length : Int)) ∧ _ := it_ H
 have c2b0 := eq_true c2
 have c2b1 := decide_eq_true c2
 clear c2
 obtain ⟨c3, H⟩ : (((l0.length : Int) : Int).toNat ≤ 70368744177664) ∧ _ := it_ H
 have c3b0 := eq_true c3
 have c3b1 := decide_eq_true c3
 clear c3
 obtain ⟨y381, hy381⟩ : ∃ y_ : List Int, y_ = (List.replicate ((l0.length : Int) : Int).toNat 0) := ⟨_, rfl⟩
 first | rw [Option.bind_some, ← hy381] at H | rw [← hy381] at H
 have Ny381 := ak hy381
 clear hy381
 have H' := ak H
 clear H
 go_enter Tryd.func146, Tryd.ntmps146
 go_wp2_with (first | ((with_reducible refine gate_dst (N := 8) rfl ?_); refine R_make (Kd.int .u32) _ 115 rfl (N := 8) rfl 23 _ _ rfl (l0.length : Int) ?hx ?hy Tryd.underlying23 (.int .u32 0) 4 info115 rfl (by decide) (by omega) 0 (ok := fun _ => True) (okp := fun _ => True) rfl (fun _ hk => hk) trivial od_ (Nat.le_trans (Nat.mul_le_mul_right _ (od_ : (l0.length : Int).toNat ≤ 70368744177664)) (by omega)) (Below.refl _ _) (Nat.le_refl _) ?_; (case hx => first | rfl); (case hy => first | rfl); intro v382 w4 ho5 hb hg_ hnew_; clear hg_ hnew_; (first | rw [← Ny381.out] at ho5 | (simp only [Int.reduceToNat] at ho5; rw [← Ny381.out] at ho5)); refine nx2_ (R_lower ho5 (below_size (bU_ HB.out))) (below_step (bU_ HB.out) hb) ?_; clear HB; intro HO383 HB; clear hb ho5))
 go_loopg [4, 5] k (fun kq v4 v5 w' => ∃ (x3_1 : List Int) (x4_1 : Int) (x5_1 : Int), v4 = .int .u32 x4_1 ∧ v5 = .int .i64 x5_1 ∧ Aside0 (attestorref02_half.l0 kq l0 x3_1 x4_1 x5_1 = some r) ∧ Aside0 (kq ≤ k) ∧ Aside0 (Kd.R (Kd.int .u32) 115 w' w.heap.size (fun _ => True) v382 x3_1) ∧ Aside0 (Below w.heap.size w w'))
 case atStart => exact ⟨(y381), (0), (wrap64 ((l0.length : Int) - 1)), gb_, gb_, H', ⟨Nat.le_refl _⟩, ⟨rU_ HO383.out⟩, ⟨bU_ HB.out⟩⟩
 case round =>
  clear H'
  (try clear c1); (try clear c2); (try clear c2b0); (try clear c2b1); (try clear p2); (try clear c3); (try clear c3b0); (try clear c3b1)
  obtain ⟨x3_1, x4_1, x5_1, rfl, rfl, HA, HK1, HO_3, HB⟩ := hrel
  cases gk with
  | zero => exact absurd HA.out (by simp [attestorref02_half.l0])
  | succ k1 =>
   have H := HA.out
   clear HA
   simp only [attestorref02_half.l0] at H
   by_cases c6 : x5_1 ≥ 0
   ·rw [if_pos c6] at H
    have c6b0 : decide (0 ≤ x5_1) = true := decide_eq_true c6
    clear c6
    obtain ⟨c7, H⟩ : (0 ≤ x5_1) ∧ _ := it_ H
    have c7b0 := decide_eq_true c7
    clear c7
    obtain ⟨c8, H⟩ : (x5_1 < (l0.length : Int)) ∧ _ := it_ H
    have c8b0 := decide_eq_true c8
    clear c8
    obtain ⟨c9, H⟩ : (x5_1 < (x3_1.length : Int)) ∧ _ := it_ H
    have c9b0 := decide_eq_true c9
    clear c9
    obtain ⟨y385, hy385⟩ : ∃ y_ : List Int, y_ = (x3_1.set (x5_1 : Int).toNat ((((Int.tdiv (rd l0 x5_1) 2) % 4294967296) + x4_1) % 4294967296)) := ⟨_, rfl⟩
    first | rw [Option.bind_some, ← hy385] at H | rw [← hy385] at H
    have Ny385 := ak hy385
    clear hy385
    have H' := ak H
    clear H
    have p384 : 0 ≤ (x5_1 : Int) := od_
    have q384 : x5_1 < (l0.length : Int) := od_
    obtain ⟨ad384, e384, hx384_0⟩ := Kd.at_int HR0.out x5_1 p384 q384
    cases e384
    replace hx384_0 := (HB.out.cell (World.block_lt_of_cell? w _ hx384_0)).trans hx384_0
    replace p384 := eq_true p384
    replace q384 := eq_true q384
    have p10 : 0 ≤ (x5_1 : Int) := od_
    have q10 : (x5_1 : Int) < ((x3_1.length : Int) : Int) := od_
    obtain ⟨go10, co10, eo10, gb10, gl10, cl10, HG10⟩ := Kd.R_form HO_3.out (by omega)
    (first | cases eo10 | (injection eo10 with ea_ en_ ec_; (first | subst ea_ | (injection ea_ with ea_; subst ea_)); subst ec_; clear en_))
    have GB10 := ak gb10
    have GG10 := ak HG10
    clear gb10 gl10 HG10
    obtain ⟨hx10_0, hf10_0⟩ := Kd.R_celln 0 HO_3.out (x5_1 : Int) p10 q10
    replace p10 := eq_true p10
    replace q10 := eq_true q10
    have HP11 := Kd.R_putg HO_3.out (x5_1 : Int) ((((Int.tdiv (rd l0 x5_1) 2) % 4294967296) + x4_1) % 4294967296)
    go_wp2_with (first | ((with_reducible refine gate_store (t := 115) (p := 25) rfl ?_); refine store_event (t := 115) (p := 25) (v := ?vo_w12) (w1 := (wr.setCell ⟨go10, (x5_1 : Int).toNat, none⟩ (.int .u32 ((((Int.tdiv (rd l0 x5_1) 2) % 4294967296) + x4_1) % 4294967296)))) ?hg ?ho ?hn ?hr ?_; (case ho => rfl); (case hg => rfl); (case hn => rfl); (case hr => first | (go_simp; done) | (go_simp; rfl)); intro w12 hw; have hg : wr.grownBy w12 (some go10) := (by rw [hw]; exact HP11.2); have hp_ : Kd.R (Kd.int .u32) 115 w12 w.heap.size (fun _ => True) (.slice (some ⟨go10, 0, none⟩) x3_1.length co10) y385 := (by rw [hw, Ny385.out]; exact HP11.1); clear HP11; refine nx2_ (hp_) ((by rw [hw]; exact below_set (HB.out) GB10.out : Below w.heap.size w w12)) ?_; clear HO_3 HB; intro HO_3 HB; clear hg hw hp_; have p386 : 0 ≤ (x5_1 : Int) := od_; have q386 : x5_1 < (l0.length : Int) := od_; obtain ⟨ad386, e386, hx386_0⟩ := Kd.at_int HR0.out x5_1 p386 q386; obtain rfl : ad384 = ad386 := (by injection e386); replace hx386_0 := (HB.out.cell (World.block_lt_of_cell? w _ hx386_0)).trans hx386_0; replace p386 := eq_true p386; replace q386 := eq_true q386))
    go_roundg k1
    case measure => have := HK1.out; omega
    case rel => exact ⟨(y385), (((Int.tmod (rd l0 x5_1) 2) * 2147483648) % 4294967296), (wrap64 (x5_1 - 1)), gb_, gb_, H', ⟨by have := HK1.out; omega⟩, ⟨rU_ HO_3.out⟩, ⟨bU_ HB.out⟩⟩
   rw [if_neg c6] at H
   have c6b0 : decide (0 ≤ x5_1) = false := decide_eq_false c6
   clear c6
   revert H
   refine bd_ fun t387 A13 H => ?_
   obtain rfl := Option.some.inj H
   obtain ⟨Ao14, co14, eo14⟩ := R_slice HO_3.out
   subst eo14
   go_wp2_with (first | ((with_reducible refine gate_callee (f := 126) rfl ?_); refine gl_ (some 33) Tryd.func126 #[.slice Ao14 x3_1.length co14] ?_; (with_reducible refine (attestorref02_trim.calls k1 _ _ x3_1 t387 _ ?side1 ?side2 A13.out).mono ?_); (case side1 => exact cU_ ((R_reads' HO_3.out).2.2)); (case side2 => exact (R_reads' HO_3.out).2.1); rintro e w15 ⟨v388, rfl, ho0, hb⟩; refine ⟨_, rfl, ?_⟩; refine nx3_ (R_elder' (rU_ HO_3.out) (R_base ho0) hb) (R_lower (R_new' ho0 (R_lt (rU_ HO_3.out))) (below_size (bU_ HB.out))) (below_step (bU_ HB.out) hb) ?_; clear HO_3 HB; intro HO_3 HO389 HB; clear hb ho0))
   go_ret
   exact ⟨_, eW_, R_mono (rU_ HO389.out) (fun _ hk => trivial), bU_ HB.out⟩

def attestorref02_diff.l0 : Nat → List Int → List Int → List Int → Int → Int → Option (List Int)
 | 0, _, _, _, _, _ => none
 | k + 1, x0, x1, x5, x6, x7 => if x7 < (x0.length : Int) then ((attestorref02_limb.f x0 x7).bind fun t393 => ((attestorref02_limb.f x1 x7).bind fun t394 => (if t393 < (IntKind.u64.wrap (t394 + x6)) then (if x5.length < 35184372088832 then (attestorref02_diff.l0 k x0 x1 (x5 ++ [(IntKind.u64.wrap ((IntKind.u64.wrap (t393 + 4294967296)) - (IntKind.u64.wrap (t394 + x6)))) % 4294967296]) 1 (wrap64 (x7 + 1))) else (none)) else (if x5.length < 35184372088832 then (attestorref02_diff.l0 k x0 x1 (x5 ++ [(IntKind.u64.wrap (t393 - (IntKind.u64.wrap (t394 + x6)))) % 4294967296]) 0 (wrap64 (x7 + 1))) else (none))))) else ((attestorref02_trim.f k x5).bind fun t390 => (some t390))
def attestorref02_diff.f (k : Nat) (l0 : List Int) (l1 : List Int) : Option (List Int) := attestorref02_diff.l0 k l0 l1 ([] : List Int) 0 0
set_option maxHeartbeats 8000000 in
set_option maxRecDepth 100000 in
theorem attestorref02_diff.calls (k : Nat) (A0 : Option Addr) (c0 : Nat) (l0 : List Int) (A1 : Option Addr) (c1 : Nat) (l1 : List Int) (r : List Int) (w : World) (hr0 : Kd.C (Kd.int .u32) w A0 l0.length l0) (hc0 : l0.length ≤ c0) (hr1 : Kd.C (Kd.int .u32) w A1 l1.length l1) (hc1 : l1.length ≤ c1) (h : attestorref02_diff.f k l0 l1 = some r) :
  Calls Tryd.prog 147 #[.slice A0 l0.length c0, .slice A1 l1.length c1] w fun e w' => ∃ v0_ : Value, e = .returned (v0_) ∧ Kd.R (Kd.int .u32) 115 w' w.heap.size (fun _ => True) v0_ r ∧ Below w.heap.size w w' := by
 have HR0 := ak hr0
 have HC0 := ak hc0
 clear hr0 hc0
 have HR1 := ak hr1
 have HC1 := ak hc1
 clear hr1 hc1
 have HB := ak (Below.refl w.heap.size w)
 have H : (attestorref02_diff.l0 k l0 l1 ([] : List Int) 0 0) = some r := h
 clear h
 have H' := ak H
 clear H
 go_enter Tryd.func147, Tryd.ntmps147
 go_wp2
 go_loopg [5, 6, 7] k (fun kq v5 v6 v7 w' => ∃ (x5_1 : List Int) (x6_1 : Int) (x7_1 : Int), v6 = .int .u64 x6_1 ∧ v7 = .int .i64 x7_1 ∧ Aside0 (attestorref02_diff.l0 kq l0 l1 x5_1 x6_1 x7_1 = some r) ∧ Aside0 (kq ≤ k) ∧ Aside0 (Kd.R (Kd.int .u32) 115 w' w.heap.size (fun _ => True) v5 x5_1) ∧ Aside0 (Below w.heap.size w w'))
 case atStart => exact ⟨(([] : List Int)), (0), (0), gb_, gb_, H', ⟨Nat.le_refl _⟩, ⟨by first | exact Kd.R_nil _ _ _ _ _ | exact Kd.N_nil _ _ _ _ _ | exact Kd.V_nil _ _ _ _ _ | exact Kd.Q_nil _ _ _ _ _ | exact Kd.S_nil _ _ _ _ _⟩, ⟨bU_ HB.out⟩⟩
 case round =>
  clear H'
  (try clear c1); (try clear p2)
  obtain ⟨x5_1, x6_1, x7_1, rfl, rfl, HA, HK1, HO_5, HB⟩ := hrel
  cases gk with
  | zero => exact absurd HA.out (by simp [attestorref02_diff.l0])
  | succ k1 =>
   have H := HA.out
   clear HA
   simp only [attestorref02_diff.l0] at H
   by_cases c3 : x7_1 < (l0.length : Int)
   ·rw [if_pos c3] at H
    have c3b0 := decide_eq_true c3
    clear c3
    revert H
    refine bd_ fun t393 A4 H => ?_
    revert H
    refine bd_ fun t394 A5 H => ?_
    by_cases c6 : t393 < (IntKind.u64.wrap (t394 + x6_1))
    ·rw [if_pos c6] at H
     have c6b0 := decide_eq_true c6
     clear c6
     obtain ⟨c7, H⟩ : (x5_1.length < 35184372088832) ∧ _ := it_ H
     have LMc7 := ak c7
     clear c7
     obtain ⟨y395, hy395⟩ : ∃ y_ : List Int, y_ = (x5_1 ++ [(IntKind.u64.wrap ((IntKind.u64.wrap (t393 + 4294967296)) - (IntKind.u64.wrap (t394 + x6_1)))) % 4294967296]) := ⟨_, rfl⟩
     first | rw [Option.bind_some, ← hy395] at H | rw [← hy395] at H
     have Ny395 := ak hy395
     clear hy395
     have H' := ak H
     clear H
     go_wp2_with (first | ((with_reducible refine gate_callee (f := 129) rfl ?_); refine gl_ (some 18) Tryd.func129 #[.slice A0 l0.length c0, .int .i64 x7_1] ?_; (with_reducible refine (attestorref02_limb.calls _ _ l0 x7_1 t393 _ ?side1 ?side2 A4.out).mono ?_); (case side1 => exact cU_ (C_below HR0.out HB.out)); (case side2 => exact HC0.out); rintro e w' ⟨rfl, ⟨nd, rfl⟩⟩; refine ⟨_, rfl, ?_⟩) | ((with_reducible refine gate_callee (f := 129) rfl ?_); refine gl_ (some 21) Tryd.func129 #[.slice A1 l1.length c1, .int .i64 x7_1] ?_; (with_reducible refine (attestorref02_limb.calls _ _ l1 x7_1 t394 _ ?side1 ?side2 A5.out).mono ?_); (case side1 => exact (C_below HR1.out (bU_ HB.out))); (case side2 => exact HC1.out); rintro e w' ⟨rfl, ⟨nd, rfl⟩⟩; refine ⟨_, rfl, ?_⟩) | ((with_reducible refine gate_builtin (b := .append) (xs := #[.tmp 29, .tmp 34]) rfl ?_); at_builtin; refine Kd.R_append (Kd.int .u32) (w0 := w) w.heap.size rfl (.tmp 29) (.tmp 34) 23 115 (.int .u32 0) 4 rfl Tryd.underlying23 info115 rfl (by decide) (by omega) u5 x5_1 ((IntKind.u64.wrap ((IntKind.u64.wrap (t393 + 4294967296)) - (IntKind.u64.wrap (t394 + x6_1)))) % 4294967296) [.int .u32 ((IntKind.u64.wrap ((IntKind.u64.wrap (t393 + 4294967296)) - (IntKind.u64.wrap (t394 + x6_1)))) % 4294967296)] (fun _ => True) (fun _ => False) rfl rfl ?aP (fun _ hk => hk.elim) ?aF ?aO ?aB ?aS ?aL ?_; (case aP => exact rfl); (case aB => exact (bU_ HB.out)); (case aF => exact (fun _ _ => trivial)); (case aO => exact (rU_ HO_5.out)); (case aS => exact (below_size (bU_ HB.out))); (case aL => have := LMc7.out; omega); intro v396 w8 ho hb hg hat; rw [← Ny395.out] at ho; refine nx2_ (hb) (ho) ?_; clear HB HO_5; intro HB HO397; clear ho hb hg hat))
     go_roundg k1
     case measure => have := HK1.out; omega
     case rel => exact ⟨(y395), (1), (wrap64 (x7_1 + 1)), gb_, gb_, H', ⟨by have := HK1.out; omega⟩, ⟨rU_ HO397.out⟩, ⟨bU_ HB.out⟩⟩
    rw [if_neg c6] at H
    have c6b0 := decide_eq_false c6
    clear c6
    obtain ⟨c9, H⟩ : (x5_1.length < 35184372088832) ∧ _ := it_ H
    have LMc9 := ak c9
    clear c9
    obtain ⟨y398, hy398⟩ : ∃ y_ : List Int, y_ = (x5_1 ++ [(IntKind.u64.wrap (t393 - (IntKind.u64.wrap (t394 + x6_1)))) % 4294967296]) := ⟨_, rfl⟩
    first | rw [Option.bind_some, ← hy398] at H | rw [← hy398] at H
    have Ny398 := ak hy398
    clear hy398
    have H' := ak H
    clear H
    go_wp2_with (first | ((with_reducible refine gate_callee (f := 129) rfl ?_); refine gl_ (some 18) Tryd.func129 #[.slice A0 l0.length c0, .int .i64 x7_1] ?_; (with_reducible refine (attestorref02_limb.calls _ _ l0 x7_1 t393 _ ?side1 ?side2 A4.out).mono ?_); (case side1 => exact cU_ (C_below HR0.out HB.out)); (case side2 => exact HC0.out); rintro e w' ⟨rfl, ⟨nd, rfl⟩⟩; refine ⟨_, rfl, ?_⟩) | ((with_reducible refine gate_callee (f := 129) rfl ?_); refine gl_ (some 21) Tryd.func129 #[.slice A1 l1.length c1, .int .i64 x7_1] ?_; (with_reducible refine (attestorref02_limb.calls _ _ l1 x7_1 t394 _ ?side1 ?side2 A5.out).mono ?_); (case side1 => exact (C_below HR1.out (bU_ HB.out))); (case side2 => exact HC1.out); rintro e w' ⟨rfl, ⟨nd, rfl⟩⟩; refine ⟨_, rfl, ?_⟩) | ((with_reducible refine gate_builtin (b := .append) (xs := #[.tmp 29, .tmp 34]) rfl ?_); at_builtin; refine Kd.R_append (Kd.int .u32) (w0 := w) w.heap.size rfl (.tmp 29) (.tmp 34) 23 115 (.int .u32 0) 4 rfl Tryd.underlying23 info115 rfl (by decide) (by omega) u5 x5_1 ((IntKind.u64.wrap (t393 - (IntKind.u64.wrap (t394 + x6_1)))) % 4294967296) [.int .u32 ((IntKind.u64.wrap (t393 - (IntKind.u64.wrap (t394 + x6_1)))) % 4294967296)] (fun _ => True) (fun _ => False) rfl rfl ?aP (fun _ hk => hk.elim) ?aF ?aO ?aB ?aS ?aL ?_; (case aP => exact rfl); (case aB => exact (bU_ HB.out)); (case aF => exact (fun _ _ => trivial)); (case aO => exact (rU_ HO_5.out)); (case aS => exact (below_size (bU_ HB.out))); (case aL => have := LMc9.out; omega); intro v399 w10 ho hb hg hat; rw [← Ny398.out] at ho; refine nx2_ (hb) (ho) ?_; clear HB HO_5; intro HB HO400; clear ho hb hg hat))
    go_roundg k1
    case measure => have := HK1.out; omega
    case rel => exact ⟨(y398), (0), (wrap64 (x7_1 + 1)), gb_, gb_, H', ⟨by have := HK1.out; omega⟩, ⟨rU_ HO400.out⟩, ⟨bU_ HB.out⟩⟩
   rw [if_neg c3] at H
   have c3b0 := decide_eq_false c3
   clear c3
   revert H
   refine bd_ fun t390 A11 H => ?_
   obtain rfl := Option.some.inj H
   obtain ⟨Ao12, co12, eo12⟩ := R_slice HO_5.out
   subst eo12
   go_wp2_with (first | ((with_reducible refine gate_callee (f := 126) rfl ?_); refine gl_ (some 37) Tryd.func126 #[.slice Ao12 x5_1.length co12] ?_; (with_reducible refine (attestorref02_trim.calls k1 _ _ x5_1 t390 _ ?side1 ?side2 A11.out).mono ?_); (case side1 => exact cU_ ((R_reads' HO_5.out).2.2)); (case side2 => exact (R_reads' HO_5.out).2.1); rintro e w13 ⟨v391, rfl, ho0, hb⟩; refine ⟨_, rfl, ?_⟩; refine nx3_ (R_elder' (rU_ HO_5.out) (R_base ho0) hb) (R_lower (R_new' ho0 (R_lt (rU_ HO_5.out))) (below_size (bU_ HB.out))) (below_step (bU_ HB.out) hb) ?_; clear HO_5 HB; intro HO_5 HO392 HB; clear hb ho0))
   go_ret
   exact ⟨_, eW_, R_mono (rU_ HO392.out) (fun _ hk => trivial), bU_ HB.out⟩

mutual
def attestorref02_gcd.l0 : Nat → List Int → List Int → Int → Option (List Int)
 | 0, _, _, _ => none
 | k + 1, x0, x1, x5 => (attestorref02_even.f x0).bind fun t407 => (if t407 = true then ((attestorref02_even.f x1).bind fun t408 => (attestorref02_gcd.j1 k x0 x1 x5 t408)) else (attestorref02_gcd.j1 k x0 x1 x5 false))
def attestorref02_gcd.j1 : Nat → List Int → List Int → Int → Bool → Option (List Int)
 | 0, _, _, _, _ => none
 | k + 1, x0, x1, x5, x22 => if x22 = true then ((attestorref02_half.f k x0).bind fun t409 => ((attestorref02_half.f k x1).bind fun t412 => (attestorref02_gcd.l0 k t409 t412 (wrap64 (x5 + 1))))) else (attestorref02_gcd.l1 k x0 x1 x5)
def attestorref02_gcd.l1 : Nat → List Int → List Int → Int → Option (List Int)
 | 0, _, _, _ => none
 | k + 1, x0, x1, x5 => if (x0.length : Int) > 0 then (attestorref02_gcd.l2 k x0 x1 x5) else (attestorref02_gcd.l4 k x1 x5 0)
def attestorref02_gcd.l2 : Nat → List Int → List Int → Int → Option (List Int)
 | 0, _, _, _ => none
 | k + 1, x0, x1, x5 => (attestorref02_even.f x0).bind fun t415 => (if t415 = true then ((attestorref02_half.f k x0).bind fun t416 => (attestorref02_gcd.l2 k t416 x1 x5)) else (attestorref02_gcd.l3 k x0 x1 x5))
def attestorref02_gcd.l3 : Nat → List Int → List Int → Int → Option (List Int)
 | 0, _, _, _ => none
 | k + 1, x0, x1, x5 => (attestorref02_even.f x1).bind fun t419 => (if t419 = true then ((attestorref02_half.f k x1).bind fun t420 => (attestorref02_gcd.l3 k x0 t420 x5)) else ((attestorref02_order.f k x0 x1).bind fun t423 => (if t423 < 0 then ((attestorref02_diff.f k x1 x0).bind fun t424 => (attestorref02_gcd.l1 k t424 x0 x5)) else ((attestorref02_diff.f k x0 x1).bind fun t427 => (attestorref02_gcd.l1 k t427 x1 x5)))))
def attestorref02_gcd.l4 : Nat → List Int → Int → Int → Option (List Int)
 | 0, _, _, _ => none
 | k + 1, x1, x5, x6 => if x6 < x5 then ((attestorref02_sum.f k x1 x1).bind fun t430 => (attestorref02_gcd.l4 k t430 x5 (wrap64 (x6 + 1)))) else ((attestorref02_trim.f k x1).bind fun t433 => (some t433))
end
def attestorref02_gcd.f (k : Nat) (l0 : List Int) (l1 : List Int) : Option (List Int) := if (l0.length : Int) = 0 then ((attestorref02_trim.f k l1).bind fun t401 => (some t401)) else (if (l1.length : Int) = 0 then ((attestorref02_trim.f k l0).bind fun t404 => (some t404)) else (attestorref02_gcd.l0 k l0 l1 0))
set_option maxHeartbeats 8000000 in
set_option maxRecDepth 100000 in
theorem attestorref02_gcd.calls (k : Nat) (P0_ : Nat → Prop) (A0 : Option Addr) (c0 : Nat) (l0 : List Int) (P1_ : Nat → Prop) (A1 : Option Addr) (c1 : Nat) (l1 : List Int) (r : List Int) (w : World) (hs0 : Kd.V (Kd.int .u32) 115 w w.heap.size (fun k_ => P0_ k_) (.slice A0 l0.length c0) l0) (hs1 : Kd.V (Kd.int .u32) 115 w w.heap.size (fun k_ => P1_ k_) (.slice A1 l1.length c1) l1) (h : attestorref02_gcd.f k l0 l1 = some r) :
  Calls Tryd.prog 127 #[.slice A0 l0.length c0, .slice A1 l1.length c1] w fun e w' => ∃ v0_ : Value, e = .returned (v0_) ∧ Kd.R (Kd.int .u32) 115 w' w.heap.size (fun k_ => (w.heap.size ≤ k_)) v0_ r ∧ Below w.heap.size w w' := by
 have HO0 := ak (show Kd.V (Kd.int .u32) 115 w w.heap.size (fun k_ => ((P0_ k_ ∨ P1_ k_) ∨ w.heap.size ≤ k_)) (.slice A0 l0.length c0) l0 from V_mono hs0 (fun k_ hk => .inl (.inl hk)))
 have HO1 := ak (show Kd.V (Kd.int .u32) 115 w w.heap.size (fun k_ => ((P0_ k_ ∨ P1_ k_) ∨ w.heap.size ≤ k_)) (.slice A1 l1.length c1) l1 from V_mono hs1 (fun k_ hk => .inl (.inr hk)))
 have HB := ak (Below.refl w.heap.size w)
 have H := h
 clear h
 unfold attestorref02_gcd.f at H
 by_cases c3 : (l0.length : Int) = 0
 ·rw [if_pos c3] at H
  have c3b0 := beq_iff_eq.mpr c3
  have c3b1 := bne_eq_false_iff_eq.mpr c3
  clear c3
  revert H
  refine bd_ fun t401 A4 H => ?_
  obtain rfl := Option.some.inj H
  go_enter Tryd.func127, Tryd.ntmps127
  go_wp2_with (first | ((with_reducible refine gate_callee (f := 126) rfl ?_); refine gl_ (some 11) Tryd.func126 #[.slice A1 l1.length c1] ?_; (with_reducible refine (attestorref02_trim.calls k _ _ l1 t401 _ ?side1 ?side2 A4.out).mono ?_); (case side1 => exact cU_ ((V_reads' HO1.out).2.2)); (case side2 => exact (V_reads' HO1.out).2.1); rintro e w5 ⟨v402, rfl, ho0, hb⟩; refine ⟨_, rfl, ?_⟩; refine nx4_ (V_elder' (vU_ HO0.out) (R_base ho0) hb) (V_elder' (vU_ HO1.out) (R_base ho0) hb) (R_lower (R_newM (M := fun k_ => (w.heap.size ≤ k_)) ho0 (below_size (bU_ HB.out)) (fun k_ h_ => h_)) (below_size (bU_ HB.out))) (below_step (bU_ HB.out) hb) ?_; clear HO0 HO1 HB; intro HO0 HO1 HO403 HB; clear hb ho0))
  go_ret
  exact ⟨_, eW_, R_mono (rU_ HO403.out) (fun _ hk => hk.1), bU_ HB.out⟩
 rw [if_neg c3] at H
 have c3b0 := beq_eq_false_iff_ne.mpr c3
 have c3b1 := bne_iff_ne.mpr c3
 have c3b2 : ¬ (l0 = []) := fun h_ => c3 (by rw [h_]; rfl)
 by_cases c6 : (l1.length : Int) = 0
 ·rw [if_pos c6] at H
  have c6b0 := beq_iff_eq.mpr c6
  have c6b1 := bne_eq_false_iff_eq.mpr c6
  clear c6
  revert H
  refine bd_ fun t404 A7 H => ?_
  obtain rfl := Option.some.inj H
  go_enter Tryd.func127, Tryd.ntmps127
  go_wp2_with (first | ((with_reducible refine gate_callee (f := 126) rfl ?_); refine gl_ (some 16) Tryd.func126 #[.slice A0 l0.length c0] ?_; (with_reducible refine (attestorref02_trim.calls k _ _ l0 t404 _ ?side1 ?side2 A7.out).mono ?_); (case side1 => exact cU_ ((V_reads' HO0.out).2.2)); (case side2 => exact (V_reads' HO0.out).2.1); rintro e w8 ⟨v405, rfl, ho0, hb⟩; refine ⟨_, rfl, ?_⟩; refine nx4_ (V_elder' (vU_ HO0.out) (R_base ho0) hb) (V_elder' (vU_ HO1.out) (R_base ho0) hb) (R_lower (R_newM (M := fun k_ => (w.heap.size ≤ k_)) ho0 (below_size (bU_ HB.out)) (fun k_ h_ => h_)) (below_size (bU_ HB.out))) (below_step (bU_ HB.out) hb) ?_; clear HO0 HO1 HB; intro HO0 HO1 HO406 HB; clear hb ho0))
  go_ret
  exact ⟨_, eW_, R_mono (rU_ HO406.out) (fun _ hk => hk.1), bU_ HB.out⟩
 rw [if_neg c6] at H
 have c6b0 := beq_eq_false_iff_ne.mpr c6
 have c6b1 := bne_iff_ne.mpr c6
 have c6b2 : ¬ (l1 = []) := fun h_ => c6 (by rw [h_]; rfl)
 have H' := ak H
 clear H
 go_enter Tryd.func127, Tryd.ntmps127
 go_wp2
 go_loopg [0, 1, 5] k (fun kq v0 v1 v5 w' => ∃ (x0_1 : List Int) (x1_1 : List Int) (x5_1 : Int), v5 = .int .i64 x5_1 ∧ Aside0 (attestorref02_gcd.l0 kq x0_1 x1_1 x5_1 = some r) ∧ Aside0 (kq ≤ k) ∧ Aside0 (Kd.V (Kd.int .u32) 115 w' w.heap.size (fun k_ => ((P0_ k_ ∨ P1_ k_) ∨ w.heap.size ≤ k_)) v0 x0_1) ∧ Aside0 (Kd.V (Kd.int .u32) 115 w' w.heap.size (fun k_ => ((P0_ k_ ∨ P1_ k_) ∨ w.heap.size ≤ k_)) v1 x1_1) ∧ Aside0 (Below w.heap.size w w'))
 case atStart => exact ⟨(l0), (l1), (0), gb_, H', ⟨Nat.le_refl _⟩, ⟨vU_ HO0.out⟩, ⟨vU_ HO1.out⟩, ⟨bU_ HB.out⟩⟩
 case round =>
  clear H'
  (try clear c1); (try clear p2); (try clear c3); (try clear c3b0); (try clear c3b1); (try clear c3b2); (try clear c6); (try clear c6b0); (try clear c6b1); (try clear c6b2)
  obtain ⟨x0_1, x1_1, x5_1, rfl, HA, HK1, HO_0, HO_1, HB⟩ := hrel
  cases gk with
  | zero => exact absurd HA.out (by simp [attestorref02_gcd.l0])
  | succ k1 =>
   have H := HA.out
   clear HA
   simp only [attestorref02_gcd.l0] at H
   have HC9 := ak H
   clear H
   go_upto_region 6 with (fail)
   go_cut [22] (fun v22 wc => ∃ (kq : Nat) (x22_8 : Bool), v22 = .bool x22_8 ∧ Aside0 (attestorref02_gcd.j1 kq x0_1 x1_1 x5_1 x22_8 = some r) ∧ Aside0 (kq ≤ k1) ∧ Aside0 (Kd.V (Kd.int .u32) 115 wc w.heap.size (fun k_ => ((P0_ k_ ∨ P1_ k_) ∨ w.heap.size ≤ k_)) u0 x0_1) ∧ Aside0 (Kd.V (Kd.int .u32) 115 wc w.heap.size (fun k_ => ((P0_ k_ ∨ P1_ k_) ∨ w.heap.size ≤ k_)) u1 x1_1) ∧ Aside0 (Below w.heap.size w wc))
   case first =>
    have H := HC9.out
    clear HC9
    revert H
    refine bd_ fun t407 A10 H => ?_
    by_cases c11 : t407 = true
    ·subst c11
     rw [if_pos rfl] at H
     revert H
     refine bd_ fun t408 A12 H => ?_
     have H' := ak H
     clear H
     obtain ⟨Ao13, co13, eo13⟩ := V_slice HO_0.out
     subst eo13
     go_wp2_with (first | ((with_reducible refine gate_callee (f := 145) rfl ?_); refine gl_ (some 18) Tryd.func145 #[.slice Ao13 x0_1.length co13] ?_; (with_reducible refine (attestorref02_even.calls _ _ x0_1 true _ ?side1 ?side2 A10.out).mono ?_); (case side1 => exact cU_ ((V_reads' HO_0.out).2.2)); (case side2 => exact (V_reads' HO_0.out).2.1); rintro e w' ⟨rfl, ⟨nd, rfl⟩⟩; refine ⟨_, rfl, ?_⟩; obtain ⟨Ao14, co14, eo14⟩ := V_slice HO_1.out; subst eo14) | (go_at_call 145; (with_reducible refine (attestorref02_even.calls _ _ x1_1 t408 _ ?side1 ?side2 A12.out).mono ?_); (case side1 => exact cU_ ((V_reads' HO_1.out).2.2)); (case side2 => exact (V_reads' HO_1.out).2.1); rintro e w' ⟨rfl, ⟨nd, rfl⟩⟩))
     go_meet
     case rel => exact ⟨_, (t408), gb_, H', ⟨by have := HK1.out; first | omega | exact Nat.le_refl _⟩, ⟨vU_ HO_0.out⟩, ⟨vU_ HO_1.out⟩, ⟨bU_ HB.out⟩⟩
    replace c11 := Bool.eq_false_iff.mpr c11
    subst c11
    rw [if_neg (show ¬ (false = true) by decide)] at H
    have H' := ak H
    clear H
    obtain ⟨Ao15, co15, eo15⟩ := V_slice HO_0.out
    subst eo15
    go_wp2_with (first | ((with_reducible refine gate_callee (f := 145) rfl ?_); refine gl_ (some 18) Tryd.func145 #[.slice Ao15 x0_1.length co15] ?_; (with_reducible refine (attestorref02_even.calls _ _ x0_1 false _ ?side1 ?side2 A10.out).mono ?_); (case side1 => exact cU_ ((V_reads' HO_0.out).2.2)); (case side2 => exact (V_reads' HO_0.out).2.1); rintro e w' ⟨rfl, ⟨nd, rfl⟩⟩; refine ⟨_, rfl, ?_⟩))
    go_meet
    case rel => exact ⟨_, (false), gb_, H', ⟨by have := HK1.out; first | omega | exact Nat.le_refl _⟩, ⟨vU_ HO_0.out⟩, ⟨vU_ HO_1.out⟩, ⟨bU_ HB.out⟩⟩
   case rest =>
    clear HC9
    (try clear c1); (try clear p2); (try clear c3); (try clear c3b0); (try clear c3b1); (try clear c3b2); (try clear c6); (try clear c6b0); (try clear c6b1); (try clear c6b2); (try clear c11); (try clear c12); (try clear c14)
    obtain ⟨kq, x22_8, rfl, HA, HJ8, HO_0, HO_1, HB⟩ := hcut
    cases kq with
    | zero => exact absurd HA.out (by simp [attestorref02_gcd.j1])
    | succ kj8 =>
     have H := HA.out
     clear HA
     simp only [attestorref02_gcd.j1] at H
     by_cases c16 : x22_8 = true
     ·subst c16
      rw [if_pos rfl] at H
      revert H
      refine bd_ fun t409 A17 H => ?_
      revert H
      refine bd_ fun t412 A18 H => ?_
      have H' := ak H
      clear H
      obtain ⟨Ao19, co19, eo19⟩ := V_slice HO_0.out
      subst eo19
      go_wp2_with (first | ((with_reducible refine gate_callee (f := 146) rfl ?_); refine gl_ (some 24) Tryd.func146 #[.slice Ao19 x0_1.length co19] ?_; (with_reducible refine (attestorref02_half.calls kj8 _ _ x0_1 t409 _ ?side1 ?side2 A17.out).mono ?_); (case side1 => exact cU_ ((V_reads' HO_0.out).2.2)); (case side2 => exact (V_reads' HO_0.out).2.1); rintro e w20 ⟨v410, rfl, ho0, hb⟩; refine ⟨_, rfl, ?_⟩; refine nx4_ (V_elder' (vU_ HO_0.out) (R_base ho0) hb) (V_elder' (vU_ HO_1.out) (R_base ho0) hb) (R_lower (R_newM (M := fun k_ => (w.heap.size ≤ k_)) ho0 (below_size (bU_ HB.out)) (fun k_ h_ => h_)) (below_size (bU_ HB.out))) (below_step (bU_ HB.out) hb) ?_; clear HO_0 HO_1 HB; intro HO_0 HO_1 HO411 HB; clear hb ho0; obtain ⟨Ao21, co21, eo21⟩ := V_slice HO_1.out; subst eo21) | ((with_reducible refine gate_callee (f := 146) rfl ?_); refine gl_ (some 26) Tryd.func146 #[.slice Ao21 x1_1.length co21] ?_; (with_reducible refine (attestorref02_half.calls kj8 _ _ x1_1 t412 _ ?side1 ?side2 A18.out).mono ?_); (case side1 => exact cU_ ((V_reads' HO_1.out).2.2)); (case side2 => exact (V_reads' HO_1.out).2.1); rintro e w22 ⟨v413, rfl, ho0, hb⟩; refine ⟨_, rfl, ?_⟩; refine nx5_ (V_elder' (vU_ HO_0.out) (R_base ho0) hb) (V_elder' (vU_ HO_1.out) (R_base ho0) hb) (R_elder' (rU_ HO411.out) (R_base ho0) hb) (R_lower (R_new' (R_newM (M := fun k_ => (w.heap.size ≤ k_)) ho0 (below_size (bU_ HB.out)) (fun k_ h_ => h_)) (R_lt (rU_ HO411.out))) (below_size (bU_ HB.out))) (below_step (bU_ HB.out) hb) ?_; clear HO_0 HO_1 HO411 HB; intro HO_0 HO_1 HO411 HO414 HB; clear hb ho0))
      go_roundg kj8
      case measure => have := HK1.out; have := HJ8.out; omega
      case rel => exact ⟨(t409), (t412), (wrap64 (x5_1 + 1)), gb_, H', ⟨by have := HK1.out; have := HJ8.out; omega⟩, ⟨V_mono (R_V (R_mono (rU_ HO411.out) (fun _ hk => hk.1.1))) (fun k_ hk => by first | exact ⟨(.inr (hk.1)), hk.2⟩ | exact (.inr (hk)))⟩, ⟨V_mono (R_V (R_mono (rU_ HO414.out) (fun _ hk => hk.1.1))) (fun k_ hk => by first | exact ⟨(.inr (hk.1)), hk.2⟩ | exact (.inr (hk)))⟩, ⟨bU_ HB.out⟩⟩
     replace c16 := Bool.eq_false_iff.mpr c16
     subst c16
     rw [if_neg (show ¬ (false = true) by decide)] at H
     have H' := ak H
     clear H
     go_wp2
     go_loopg [0, 1] kj8 (fun kq v0 v1 w' => ∃ (x0_3 : List Int) (x1_3 : List Int), Aside0 (attestorref02_gcd.l1 kq x0_3 x1_3 x5_1 = some r) ∧ Aside0 (kq ≤ kj8) ∧ Aside0 (Kd.V (Kd.int .u32) 115 w' w.heap.size (fun k_ => ((P0_ k_ ∨ P1_ k_) ∨ w.heap.size ≤ k_)) v0 x0_3) ∧ Aside0 (Kd.V (Kd.int .u32) 115 w' w.heap.size (fun k_ => ((P0_ k_ ∨ P1_ k_) ∨ w.heap.size ≤ k_)) v1 x1_3) ∧ Aside0 (Below w.heap.size w w'))
     case atStart => exact ⟨(x0_1), (x1_1), H', ⟨Nat.le_refl _⟩, ⟨vU_ HO_0.out⟩, ⟨vU_ HO_1.out⟩, ⟨bU_ HB.out⟩⟩
     case round =>
      clear H'
      (try clear c1); (try clear p2); (try clear c3); (try clear c3b0); (try clear c3b1); (try clear c3b2); (try clear c6); (try clear c6b0); (try clear c6b1); (try clear c6b2); (try clear p6); (try clear c11); (try clear c12); (try clear c14); (try clear c16)
      obtain ⟨x0_3, x1_3, HA, HK3, HO_0, HO_1, HB⟩ := hrel
      cases gk with
      | zero => exact absurd HA.out (by simp [attestorref02_gcd.l1])
      | succ k3 =>
       have H := HA.out
       clear HA
       simp only [attestorref02_gcd.l1] at H
       by_cases c23 : (x0_3.length : Int) > 0
       ·rw [if_pos c23] at H
        have c23b0 : decide (0 < (x0_3.length : Int)) = true := decide_eq_true c23
        have c23b1 : decide (0 < x0_3.length) = true := decide_eq_true (by omega)
        clear c23
        have H' := ak H
        clear H
        obtain ⟨Ao24, co24, eo24⟩ := V_slice HO_0.out
        subst eo24
        go_wp2
        go_loopg [0] k3 (fun kq v0 w' => ∃ (x0_4 : List Int), Aside0 (attestorref02_gcd.l2 kq x0_4 x1_3 x5_1 = some r) ∧ Aside0 (kq ≤ k3) ∧ Aside0 (Kd.V (Kd.int .u32) 115 w' w.heap.size (fun k_ => ((P0_ k_ ∨ P1_ k_) ∨ w.heap.size ≤ k_)) v0 x0_4) ∧ Aside0 (Kd.V (Kd.int .u32) 115 w' w.heap.size (fun k_ => ((P0_ k_ ∨ P1_ k_) ∨ w.heap.size ≤ k_)) u1 x1_3) ∧ Aside0 (Below w.heap.size w w'))
        case atStart => exact ⟨(x0_3), H', ⟨Nat.le_refl _⟩, ⟨vU_ HO_0.out⟩, ⟨vU_ HO_1.out⟩, ⟨bU_ HB.out⟩⟩
        case round =>
         clear H'
         (try clear c1); (try clear c2); (try clear p2); (try clear c3); (try clear c3b0); (try clear c3b1); (try clear c3b2); (try clear c6); (try clear c6b0); (try clear c6b1); (try clear c6b2); (try clear p6); (try clear c11); (try clear c12); (try clear c14); (try clear c16); (try clear c23); (try clear c23b0); (try clear c23b1)
         obtain ⟨x0_4, HA, HK4, HO_0, HO_1, HB⟩ := hrel
         cases gk with
         | zero => exact absurd HA.out (by simp [attestorref02_gcd.l2])
         | succ k4 =>
          have H := HA.out
          clear HA
          simp only [attestorref02_gcd.l2] at H
          revert H
          refine bd_ fun t415 A25 H => ?_
          by_cases c26 : t415 = true
          ·subst c26
           rw [if_pos rfl] at H
           revert H
           refine bd_ fun t416 A27 H => ?_
           have H' := ak H
           clear H
           obtain ⟨Ao28, co28, eo28⟩ := V_slice HO_0.out
           subst eo28
           go_wp2_with (first | ((with_reducible refine gate_callee (f := 145) rfl ?_); refine gl_ (some 33) Tryd.func145 #[.slice Ao28 x0_4.length co28] ?_; (with_reducible refine (attestorref02_even.calls _ _ x0_4 true _ ?side1 ?side2 A25.out).mono ?_); (case side1 => exact cU_ ((V_reads' HO_0.out).2.2)); (case side2 => exact (V_reads' HO_0.out).2.1); rintro e w' ⟨rfl, ⟨nd, rfl⟩⟩; refine ⟨_, rfl, ?_⟩) | ((with_reducible refine gate_callee (f := 146) rfl ?_); refine gl_ (some 35) Tryd.func146 #[.slice Ao28 x0_4.length co28] ?_; (with_reducible refine (attestorref02_half.calls k4 _ _ x0_4 t416 _ ?side1 ?side2 A27.out).mono ?_); (case side1 => exact cU_ ((V_reads' HO_0.out).2.2)); (case side2 => exact (V_reads' HO_0.out).2.1); rintro e w29 ⟨v417, rfl, ho0, hb⟩; refine ⟨_, rfl, ?_⟩; refine nx4_ (V_elder' (vU_ HO_0.out) (R_base ho0) hb) (V_elder' (vU_ HO_1.out) (R_base ho0) hb) (R_lower (R_newM (M := fun k_ => (w.heap.size ≤ k_)) ho0 (below_size (bU_ HB.out)) (fun k_ h_ => h_)) (below_size (bU_ HB.out))) (below_step (bU_ HB.out) hb) ?_; clear HO_0 HO_1 HB; intro HO_0 HO_1 HO418 HB; clear hb ho0))
           go_roundg k4
           case measure => have := HK1.out; have := HJ8.out; have := HK3.out; have := HK4.out; omega
           case rel => exact ⟨(t416), H', ⟨by have := HK1.out; have := HJ8.out; have := HK3.out; have := HK4.out; omega⟩, ⟨V_mono (R_V (R_mono (rU_ HO418.out) (fun _ hk => hk.1))) (fun k_ hk => by first | exact ⟨(.inr (hk.1)), hk.2⟩ | exact (.inr (hk)))⟩, ⟨by (with_reducible repeat (first | apply Kd.V_alloc | apply Kd.V_drewN | apply V_drew)); exact V_mono HO_1.out (fun _ hk => hk.1)⟩, ⟨bU_ HB.out⟩⟩
          replace c26 := Bool.eq_false_iff.mpr c26
          subst c26
          rw [if_neg (show ¬ (false = true) by decide)] at H
          have H' := ak H
          clear H
          obtain ⟨Ao30, co30, eo30⟩ := V_slice HO_0.out
          subst eo30
          go_wp2_with (first | ((with_reducible refine gate_callee (f := 145) rfl ?_); refine gl_ (some 33) Tryd.func145 #[.slice Ao30 x0_4.length co30] ?_; (with_reducible refine (attestorref02_even.calls _ _ x0_4 false _ ?side1 ?side2 A25.out).mono ?_); (case side1 => exact cU_ ((V_reads' HO_0.out).2.2)); (case side2 => exact (V_reads' HO_0.out).2.1); rintro e w' ⟨rfl, ⟨nd, rfl⟩⟩; refine ⟨_, rfl, ?_⟩))
          try go_simp
          go_loopg [1] k4 (fun kq v1 w' => ∃ (x1_5 : List Int), Aside0 (attestorref02_gcd.l3 kq x0_4 x1_5 x5_1 = some r) ∧ Aside0 (kq ≤ k4) ∧ Aside0 (Kd.V (Kd.int .u32) 115 w' w.heap.size (fun k_ => ((P0_ k_ ∨ P1_ k_) ∨ w.heap.size ≤ k_)) (.slice Ao30 x0_4.length co30) x0_4) ∧ Aside0 (Kd.V (Kd.int .u32) 115 w' w.heap.size (fun k_ => ((P0_ k_ ∨ P1_ k_) ∨ w.heap.size ≤ k_)) v1 x1_5) ∧ Aside0 (Below w.heap.size w w'))
          case atStart => exact ⟨(x1_3), H', ⟨Nat.le_refl _⟩, ⟨vU_ HO_0.out⟩, ⟨vU_ HO_1.out⟩, ⟨bU_ HB.out⟩⟩
          case round =>
           clear H'
           (try clear c1); (try clear c2); (try clear p2); (try clear c3); (try clear c3b0); (try clear c3b1); (try clear c3b2); (try clear c6); (try clear c6b0); (try clear c6b1); (try clear c6b2); (try clear p6); (try clear c11); (try clear c12); (try clear c14); (try clear c16); (try clear c23); (try clear c23b0); (try clear c23b1); (try clear c26)
           obtain ⟨x1_5, HA, HK5, HO_0, HO_1, HB⟩ := hrel
           cases gk with
           | zero => exact absurd HA.out (by simp [attestorref02_gcd.l3])
           | succ k5 =>
            have H := HA.out
            clear HA
            simp only [attestorref02_gcd.l3] at H
            revert H
            refine bd_ fun t419 A31 H => ?_
            by_cases c32 : t419 = true
            ·subst c32
             rw [if_pos rfl] at H
             revert H
             refine bd_ fun t420 A33 H => ?_
             have H' := ak H
             clear H
             obtain ⟨Ao34, co34, eo34⟩ := V_slice HO_1.out
             subst eo34
             go_wp2_with (first | ((with_reducible refine gate_callee (f := 145) rfl ?_); refine gl_ (some 37) Tryd.func145 #[.slice Ao34 x1_5.length co34] ?_; (with_reducible refine (attestorref02_even.calls _ _ x1_5 true _ ?side1 ?side2 A31.out).mono ?_); (case side1 => exact cU_ ((V_reads' HO_1.out).2.2)); (case side2 => exact (V_reads' HO_1.out).2.1); rintro e w' ⟨rfl, ⟨nd, rfl⟩⟩; refine ⟨_, rfl, ?_⟩) | ((with_reducible refine gate_callee (f := 146) rfl ?_); refine gl_ (some 39) Tryd.func146 #[.slice Ao34 x1_5.length co34] ?_; (with_reducible refine (attestorref02_half.calls k5 _ _ x1_5 t420 _ ?side1 ?side2 A33.out).mono ?_); (case side1 => exact cU_ ((V_reads' HO_1.out).2.2)); (case side2 => exact (V_reads' HO_1.out).2.1); rintro e w35 ⟨v421, rfl, ho0, hb⟩; refine ⟨_, rfl, ?_⟩; refine nx4_ (V_elder' (vU_ HO_0.out) (R_base ho0) hb) (V_elder' (vU_ HO_1.out) (R_base ho0) hb) (R_lower (R_newM (M := fun k_ => (w.heap.size ≤ k_)) ho0 (below_size (bU_ HB.out)) (fun k_ h_ => h_)) (below_size (bU_ HB.out))) (below_step (bU_ HB.out) hb) ?_; clear HO_0 HO_1 HB; intro HO_0 HO_1 HO422 HB; clear hb ho0))
             go_roundg k5
             case measure => have := HK1.out; have := HJ8.out; have := HK3.out; have := HK4.out; have := HK5.out; omega
             case rel => exact ⟨(t420), H', ⟨by have := HK1.out; have := HJ8.out; have := HK3.out; have := HK4.out; have := HK5.out; omega⟩, ⟨by (with_reducible repeat (first | apply Kd.V_alloc | apply Kd.V_drewN | apply V_drew)); exact V_mono HO_0.out (fun _ hk => hk.1)⟩, ⟨V_mono (R_V (R_mono (rU_ HO422.out) (fun _ hk => hk.1))) (fun k_ hk => by first | exact ⟨(.inr (hk.1)), hk.2⟩ | exact (.inr (hk)))⟩, ⟨bU_ HB.out⟩⟩
            replace c32 := Bool.eq_false_iff.mpr c32
            subst c32
            rw [if_neg (show ¬ (false = true) by decide)] at H
            revert H
            refine bd_ fun t423 A36 H => ?_
            by_cases c37 : t423 < 0
            ·rw [if_pos c37] at H
             have c37b0 := decide_eq_true c37
             clear c37
             revert H
             refine bd_ fun t424 A38 H => ?_
             have H' := ak H
             clear H
             obtain ⟨Ao39, co39, eo39⟩ := V_slice HO_1.out
             subst eo39
             go_wp2_with (first | ((with_reducible refine gate_callee (f := 145) rfl ?_); refine gl_ (some 37) Tryd.func145 #[.slice Ao39 x1_5.length co39] ?_; (with_reducible refine (attestorref02_even.calls _ _ x1_5 false _ ?side1 ?side2 A31.out).mono ?_); (case side1 => exact cU_ ((V_reads' HO_1.out).2.2)); (case side2 => exact (V_reads' HO_1.out).2.1); rintro e w' ⟨rfl, ⟨nd, rfl⟩⟩; refine ⟨_, rfl, ?_⟩) | ((with_reducible refine gate_callee (f := 130) rfl ?_); refine gl_ (some 42) Tryd.func130 #[.slice Ao30 x0_4.length co30, .slice Ao39 x1_5.length co39] ?_; (with_reducible refine (attestorref02_order.calls k5 _ _ x0_4 _ _ x1_5 t423 _ ?side1 ?side2 ?side3 ?side4 A36.out).mono ?_); (case side1 => exact cU_ ((V_reads' HO_0.out).2.2)); (case side2 => exact (V_reads' HO_0.out).2.1); (case side3 => exact cU_ ((V_reads' HO_1.out).2.2)); (case side4 => exact (V_reads' HO_1.out).2.1); rintro e w' ⟨rfl, ⟨nd, rfl⟩⟩; refine ⟨_, rfl, ?_⟩) | ((with_reducible refine gate_callee (f := 147) rfl ?_); refine gl_ (some 48) Tryd.func147 #[.slice Ao39 x1_5.length co39, .slice Ao30 x0_4.length co30] ?_; (with_reducible refine (attestorref02_diff.calls k5 _ _ x1_5 _ _ x0_4 t424 _ ?side1 ?side2 ?side3 ?side4 A38.out).mono ?_); (case side1 => exact cU_ ((V_reads' HO_1.out).2.2)); (case side2 => exact (V_reads' HO_1.out).2.1); (case side3 => exact cU_ ((V_reads' HO_0.out).2.2)); (case side4 => exact (V_reads' HO_0.out).2.1); rintro e w40 ⟨v425, rfl, ho0, hb⟩; refine ⟨_, rfl, ?_⟩; refine nx4_ (V_elder' (vU_ HO_0.out) (R_base ho0) hb) (V_elder' (vU_ HO_1.out) (R_base ho0) hb) (R_lower (R_newM (M := fun k_ => (w.heap.size ≤ k_)) ho0 (below_size (bU_ HB.out)) (fun k_ h_ => h_)) (below_size (bU_ HB.out))) (below_step (bU_ HB.out) hb) ?_; clear HO_0 HO_1 HB; intro HO_0 HO_1 HO426 HB; clear hb ho0))
             go_roundg k5
             case measure => have := HK1.out; have := HJ8.out; have := HK3.out; have := HK4.out; have := HK5.out; omega
             case rel => exact ⟨(t424), (x0_4), H', ⟨by have := HK1.out; have := HJ8.out; have := HK3.out; have := HK4.out; have := HK5.out; omega⟩, ⟨V_mono (R_V (R_mono (rU_ HO426.out) (fun _ hk => hk.1))) (fun k_ hk => by first | exact ⟨(.inr (hk.1)), hk.2⟩ | exact (.inr (hk)))⟩, ⟨by (with_reducible repeat (first | apply Kd.V_alloc | apply Kd.V_drewN | apply V_drew)); exact V_mono HO_0.out (fun _ hk => hk.1)⟩, ⟨bU_ HB.out⟩⟩
            rw [if_neg c37] at H
            have c37b0 := decide_eq_false c37
            clear c37
            revert H
            refine bd_ fun t427 A41 H => ?_
            have H' := ak H
            clear H
            obtain ⟨Ao42, co42, eo42⟩ := V_slice HO_1.out
            subst eo42
            go_wp2_with (first | ((with_reducible refine gate_callee (f := 145) rfl ?_); refine gl_ (some 37) Tryd.func145 #[.slice Ao42 x1_5.length co42] ?_; (with_reducible refine (attestorref02_even.calls _ _ x1_5 false _ ?side1 ?side2 A31.out).mono ?_); (case side1 => exact cU_ ((V_reads' HO_1.out).2.2)); (case side2 => exact (V_reads' HO_1.out).2.1); rintro e w' ⟨rfl, ⟨nd, rfl⟩⟩; refine ⟨_, rfl, ?_⟩) | ((with_reducible refine gate_callee (f := 130) rfl ?_); refine gl_ (some 42) Tryd.func130 #[.slice Ao30 x0_4.length co30, .slice Ao42 x1_5.length co42] ?_; (with_reducible refine (attestorref02_order.calls k5 _ _ x0_4 _ _ x1_5 t423 _ ?side1 ?side2 ?side3 ?side4 A36.out).mono ?_); (case side1 => exact cU_ ((V_reads' HO_0.out).2.2)); (case side2 => exact (V_reads' HO_0.out).2.1); (case side3 => exact cU_ ((V_reads' HO_1.out).2.2)); (case side4 => exact (V_reads' HO_1.out).2.1); rintro e w' ⟨rfl, ⟨nd, rfl⟩⟩; refine ⟨_, rfl, ?_⟩) | ((with_reducible refine gate_callee (f := 147) rfl ?_); refine gl_ (some 48) Tryd.func147 #[.slice Ao30 x0_4.length co30, .slice Ao42 x1_5.length co42] ?_; (with_reducible refine (attestorref02_diff.calls k5 _ _ x0_4 _ _ x1_5 t427 _ ?side1 ?side2 ?side3 ?side4 A41.out).mono ?_); (case side1 => exact cU_ ((V_reads' HO_0.out).2.2)); (case side2 => exact (V_reads' HO_0.out).2.1); (case side3 => exact cU_ ((V_reads' HO_1.out).2.2)); (case side4 => exact (V_reads' HO_1.out).2.1); rintro e w43 ⟨v428, rfl, ho0, hb⟩; refine ⟨_, rfl, ?_⟩; refine nx4_ (V_elder' (vU_ HO_0.out) (R_base ho0) hb) (V_elder' (vU_ HO_1.out) (R_base ho0) hb) (R_lower (R_newM (M := fun k_ => (w.heap.size ≤ k_)) ho0 (below_size (bU_ HB.out)) (fun k_ h_ => h_)) (below_size (bU_ HB.out))) (below_step (bU_ HB.out) hb) ?_; clear HO_0 HO_1 HB; intro HO_0 HO_1 HO429 HB; clear hb ho0))
            go_roundg k5
            case measure => have := HK1.out; have := HJ8.out; have := HK3.out; have := HK4.out; have := HK5.out; omega
            case rel => exact ⟨(t427), (x1_5), H', ⟨by have := HK1.out; have := HJ8.out; have := HK3.out; have := HK4.out; have := HK5.out; omega⟩, ⟨V_mono (R_V (R_mono (rU_ HO429.out) (fun _ hk => hk.1))) (fun k_ hk => by first | exact ⟨(.inr (hk.1)), hk.2⟩ | exact (.inr (hk)))⟩, ⟨by (with_reducible repeat (first | apply Kd.V_alloc | apply Kd.V_drewN | apply V_drew)); exact V_mono HO_1.out (fun _ hk => hk.1)⟩, ⟨bU_ HB.out⟩⟩
       rw [if_neg c23] at H
       have c23b0 : decide (0 < (x0_3.length : Int)) = false := decide_eq_false c23
       have c23b1 : decide (0 < x0_3.length) = false := decide_eq_false (by omega)
       clear c23
       have H' := ak H
       clear H
       obtain ⟨Ao44, co44, eo44⟩ := V_slice HO_0.out
       subst eo44
       go_wp2
       go_loopg [1, 6] k3 (fun kq v1 v6 w' => ∃ (x1_4 : List Int) (x6_4 : Int), v6 = .int .i64 x6_4 ∧ Aside0 (attestorref02_gcd.l4 kq x1_4 x5_1 x6_4 = some r) ∧ Aside0 (kq ≤ k3) ∧ Aside0 (Kd.V (Kd.int .u32) 115 w' w.heap.size (fun k_ => ((P0_ k_ ∨ P1_ k_) ∨ w.heap.size ≤ k_)) v1 x1_4) ∧ Aside0 (Below w.heap.size w w'))
       case atStart => exact ⟨(x1_3), (0), gb_, H', ⟨Nat.le_refl _⟩, ⟨vU_ HO_1.out⟩, ⟨bU_ HB.out⟩⟩
       case round =>
        clear H'
        (try clear c1); (try clear c2); (try clear p2); (try clear c3); (try clear c3b0); (try clear c3b1); (try clear c3b2); (try clear c6); (try clear c6b0); (try clear c6b1); (try clear c6b2); (try clear p6); (try clear c11); (try clear c12); (try clear c13); (try clear c14); (try clear c16); (try clear c23); (try clear c23b0); (try clear c23b1); (try clear c26); (try clear c32); (try clear c37); (try clear c37b0)
        obtain ⟨x1_4, x6_4, rfl, HA, HK4, HO_1, HB⟩ := hrel
        cases gk with
        | zero => exact absurd HA.out (by simp [attestorref02_gcd.l4])
        | succ k4 =>
         have H := HA.out
         clear HA
         simp only [attestorref02_gcd.l4] at H
         by_cases c45 : x6_4 < x5_1
         ·rw [if_pos c45] at H
          have c45b0 := decide_eq_true c45
          clear c45
          revert H
          refine bd_ fun t430 A46 H => ?_
          have H' := ak H
          clear H
          obtain ⟨Ao47, co47, eo47⟩ := V_slice HO_1.out
          subst eo47
          go_wp2_with (first | ((with_reducible refine gate_callee (f := 105) rfl ?_); refine gl_ (some 56) Tryd.func105 #[.slice Ao47 x1_4.length co47, .slice Ao47 x1_4.length co47] ?_; (with_reducible refine (attestorref02_sum.calls k4 _ _ x1_4 _ _ x1_4 t430 _ ?side1 ?side2 ?side3 ?side4 A46.out).mono ?_); (case side1 => exact cU_ ((V_reads' HO_1.out).2.2)); (case side2 => exact (V_reads' HO_1.out).2.1); (case side3 => exact cU_ ((V_reads' HO_1.out).2.2)); (case side4 => exact (V_reads' HO_1.out).2.1); rintro e w48 ⟨v431, rfl, ho0, hb⟩; refine ⟨_, rfl, ?_⟩; refine nx3_ (V_elder' (vU_ HO_1.out) (R_base ho0) hb) (R_lower (R_newM (M := fun k_ => (w.heap.size ≤ k_)) ho0 (below_size (bU_ HB.out)) (fun k_ h_ => h_)) (below_size (bU_ HB.out))) (below_step (bU_ HB.out) hb) ?_; clear HO_1 HB; intro HO_1 HO432 HB; clear hb ho0))
          go_roundg k4
          case measure => have := HK1.out; have := HJ8.out; have := HK3.out; have := HK4.out; omega
          case rel => exact ⟨(t430), (wrap64 (x6_4 + 1)), gb_, H', ⟨by have := HK1.out; have := HJ8.out; have := HK3.out; have := HK4.out; omega⟩, ⟨V_mono (R_V (R_mono (rU_ HO432.out) (fun _ hk => hk.1))) (fun k_ hk => by first | exact ⟨(.inr (hk.1)), hk.2⟩ | exact (.inr (hk)))⟩, ⟨bU_ HB.out⟩⟩
         rw [if_neg c45] at H
         have c45b0 := decide_eq_false c45
         clear c45
         revert H
         refine bd_ fun t433 A49 H => ?_
         obtain rfl := Option.some.inj H
         obtain ⟨Ao50, co50, eo50⟩ := V_slice HO_1.out
         subst eo50
         go_wp2_with (first | ((with_reducible refine gate_callee (f := 126) rfl ?_); refine gl_ (some 58) Tryd.func126 #[.slice Ao50 x1_4.length co50] ?_; (with_reducible refine (attestorref02_trim.calls k4 _ _ x1_4 t433 _ ?side1 ?side2 A49.out).mono ?_); (case side1 => exact cU_ ((V_reads' HO_1.out).2.2)); (case side2 => exact (V_reads' HO_1.out).2.1); rintro e w51 ⟨v434, rfl, ho0, hb⟩; refine ⟨_, rfl, ?_⟩; refine nx3_ (V_elder' (vU_ HO_1.out) (R_base ho0) hb) (R_lower (R_newM (M := fun k_ => (w.heap.size ≤ k_)) ho0 (below_size (bU_ HB.out)) (fun k_ h_ => h_)) (below_size (bU_ HB.out))) (below_step (bU_ HB.out) hb) ?_; clear HO_1 HB; intro HO_1 HO435 HB; clear hb ho0))
         go_ret
         exact ⟨_, eW_, R_mono (rU_ HO435.out) (fun _ hk => hk.1), bU_ HB.out⟩

def attestorref02_bit.f (l0 : List Int) (a1 : Int) : Option (Int) := if 0 ≤ (wrap64 (Int.tdiv a1 32)) then (if (wrap64 (Int.tdiv a1 32)) < (l0.length : Int) then (if 0 ≤ (IntKind.u64.wrap (Int.tmod a1 32)) then (if (shl .u32 1 (IntKind.u64.wrap (Int.tmod a1 32))) = 0 then (none) else (some (((Int.tdiv (rd l0 (wrap64 (Int.tdiv a1 32))) (shl .u32 1 (IntKind.u64.wrap (Int.tmod a1 32)))) % 4294967296) % 2))) else (none)) else (none)) else (none)
set_option maxHeartbeats 8000000 in
set_option maxRecDepth 100000 in
theorem attestorref02_bit.calls (A0 : Option Addr) (c0 : Nat) (l0 : List Int) (a1 : Int) (r : Int) (w : World) (hr0 : Kd.C (Kd.int .u32) w A0 l0.length l0) (hc0 : l0.length ≤ c0) (h : attestorref02_bit.f l0 a1 = some r) :
  Calls Tryd.prog 148 #[.slice A0 l0.length c0, .int .i64 a1] w fun e w' => e = .returned (.int .u32 r) ∧ Drawn0 w w' := by
 have HR0 := ak hr0
 have HC0 := ak hc0
 clear hr0 hc0
 have H := h
 clear h
 unfold attestorref02_bit.f at H
 obtain ⟨ji3, hji3⟩ : ∃ j_ : Int, (wrap64 (Int.tdiv a1 32)) = j_ := ⟨_, rfl⟩
 first | rw [hji3] at H | simp only [hji3] at H
 have hji3w : (IntKind.i64.wrap (Int.tdiv a1 32)) = ji3 := (i64_w _).trans hji3
 obtain ⟨c4, H⟩ : (0 ≤ (ji3)) ∧ _ := it_ H
 have c4b0 := decide_eq_true c4
 clear c4
 obtain ⟨c5, H⟩ : ((ji3) < (l0.length : Int)) ∧ _ := it_ H
 have c5b0 := decide_eq_true c5
 clear c5
 obtain ⟨ji6, hji6⟩ : ∃ j_ : Int, (IntKind.u64.wrap (Int.tmod a1 32)) = j_ := ⟨_, rfl⟩
 first | rw [hji6] at H | simp only [hji6] at H
 obtain ⟨c7, H⟩ : (0 ≤ (ji6)) ∧ _ := it_ H
 have c7b0 := eq_true c7
 have c7b1 := decide_eq_true c7
 clear c7
 obtain ⟨ji8, hji8⟩ : ∃ j_ : Int, (shl .u32 1 (ji6)) = j_ := ⟨_, rfl⟩
 first | rw [hji8] at H | simp only [hji8] at H
 have hji8_ : (IntKind.u32.wrap (1 * 2 ^ min (ji6).toNat 32)) = ji8 := hji8
 have hji8z : (ji6) ≤ 32 → (IntKind.u32.wrap (1 * 2 ^ (ji6).toNat)) = ji8 := shl_small hji8
 have hji8u : (IntKind.u32.wrap (2 ^ min (ji6).toNat 32)) = ji8 := by have h_ := hji8_; rw [Int.one_mul] at h_; exact h_
 have hji8v : (ji6) ≤ 32 → (IntKind.u32.wrap (2 ^ (ji6).toNat)) = ji8 := fun hle_ => by have h_ := hji8z hle_; rw [Int.one_mul] at h_; exact h_
 by_cases c9 : (ji8) = 0
 ·rw [if_pos c9] at H
  exact absurd H (by simp)
 rw [if_neg c9] at H
 have c9b0 := beq_eq_false_iff_ne.mpr c9
 have c9b1 := bne_iff_ne.mpr c9
 obtain rfl := Option.some.inj H
 have p436 : 0 ≤ ((ji3) : Int) := od_
 have q436 : (ji3) < (l0.length : Int) := od_
 obtain ⟨ad436, e436, hx436_0⟩ := Kd.at_int HR0.out (ji3) p436 q436
 cases e436
 replace p436 := eq_true p436
 replace q436 := eq_true q436
 go_enter Tryd.func148, Tryd.ntmps148
 go_wp2
 go_ret
 exact ⟨by first | rfl | (simp; done) | (simp only [← hji3, ← hji6, ← hji8] <;> (first | rfl | simp)) | (simp [*]; done), by repeat (first | exact Drawn0.refl _ | apply Drawn0.step)⟩

mutual
def attestorref02_quotient.l0 : Nat → List Int → List Int → List Int → List Int → Int → Option (List Int × List Int)
 | 0, _, _, _, _, _ => none
 | k + 1, x0, x1, x6, x7, x8 => if x8 ≥ 0 then ((attestorref02_sum.f k x7 x7).bind fun t443 => ((attestorref02_bit.f x0 x8).bind fun t446 => (if t446 = 1 then ((attestorref02_sum.f k t443 (([1] : List Int))).bind fun t450 => (attestorref02_quotient.j1 k x0 x1 x6 t450 x8)) else (attestorref02_quotient.j1 k x0 x1 x6 t443 x8)))) else ((attestorref02_trim.f k x6).bind fun t440 => (some (t440, x7)))
def attestorref02_quotient.j1 : Nat → List Int → List Int → List Int → List Int → Int → Option (List Int × List Int)
 | 0, _, _, _, _, _ => none
 | k + 1, x0, x1, x6, x7, x8 => (attestorref02_order.f k x7 x1).bind fun t453 => (if t453 ≥ 0 then ((attestorref02_diff.f k x7 x1).bind fun t454 => (if 0 ≤ (wrap64 (Int.tdiv x8 32)) then (if (wrap64 (Int.tdiv x8 32)) < (x6.length : Int) then (if 0 ≤ (IntKind.u64.wrap (Int.tmod x8 32)) then (attestorref02_quotient.l0 k x0 x1 (x6.set ((wrap64 (Int.tdiv x8 32)) : Int).toNat (((rd x6 (wrap64 (Int.tdiv x8 32))) + (shl .u32 1 (IntKind.u64.wrap (Int.tmod x8 32)))) % 4294967296)) t454 (wrap64 (x8 - 1))) else (none)) else (none)) else (none))) else (attestorref02_quotient.l0 k x0 x1 x6 x7 (wrap64 (x8 - 1))))
end
def attestorref02_quotient.f (k : Nat) (l0 : List Int) (l1 : List Int) : Option (List Int × List Int) := if 0 ≤ (l0.length : Int) then (if ((l0.length : Int) : Int).toNat ≤ 70368744177664 then (attestorref02_quotient.l0 k l0 l1 (List.replicate ((l0.length : Int) : Int).toNat 0) ([] : List Int) (wrap64 ((wrap64 (32 * (l0.length : Int))) - 1))) else (none)) else (none)
set_option maxHeartbeats 8000000 in
set_option maxRecDepth 100000 in
theorem attestorref02_quotient.calls (k : Nat) (A0 : Option Addr) (c0 : Nat) (l0 : List Int) (A1 : Option Addr) (c1 : Nat) (l1 : List Int) (r1 : List Int) (r2 : List Int) (w : World) (hr0 : Kd.C (Kd.int .u32) w A0 l0.length l0) (hc0 : l0.length ≤ c0) (hr1 : Kd.C (Kd.int .u32) w A1 l1.length l1) (hc1 : l1.length ≤ c1) (h : attestorref02_quotient.f k l0 l1 = some (r1, r2)) :
  Calls Tryd.prog 128 #[.slice A0 l0.length c0, .slice A1 l1.length c1] w fun e w' => ∃ v0_ v1_ : Value, e = .returned (.tuple #[v0_, v1_]) ∧ Kd.R (Kd.int .u32) 115 w' w.heap.size (fun k_ => some k_ ≠ (v1_ : Value).ownBlock) v0_ r1 ∧ Kd.R (Kd.int .u32) 115 w' w.heap.size (fun k_ => some k_ ≠ (v0_ : Value).ownBlock) v1_ r2 ∧ Below w.heap.size w w' := by
 have HR0 := ak hr0
 have HC0 := ak hc0
 clear hr0 hc0
 have HR1 := ak hr1
 have HC1 := ak hc1
 clear hr1 hc1
 have HB := ak (Below.refl w.heap.size w)
 have H := h
 clear h
 unfold attestorref02_quotient.f at H
 obtain ⟨c3, H⟩ : (0 ≤ (l0.length : Int)) ∧ _ := it_ H
 have c3b0 := eq_true c3
 have c3b1 := decide_eq_true c3
 clear c3
 obtain ⟨c4, H⟩ : (((l0.length : Int) : Int).toNat ≤ 70368744177664) ∧ _ := it_ H
 have c4b0 := eq_true c4
 have c4b1 := decide_eq_true c4
 clear c4
 obtain ⟨y437, hy437⟩ : ∃ y_ : List Int, y_ = (List.replicate ((l0.length : Int) : Int).toNat 0) := ⟨_, rfl⟩
 first | rw [Option.bind_some, ← hy437] at H | rw [← hy437] at H
 have Ny437 := ak hy437
 clear hy437
 have H' := ak H
 clear H
 go_enter Tryd.func128, Tryd.ntmps128
 go_wp2_with (first | ((with_reducible refine gate_dst (N := 11) rfl ?_); refine R_make (Kd.int .u32) _ 115 rfl (N := 11) rfl 23 _ _ rfl (l0.length : Int) ?hx ?hy Tryd.underlying23 (.int .u32 0) 4 info115 rfl (by decide) (by omega) 0 (ok := fun _ => True) (okp := fun _ => True) rfl (fun _ hk => hk) trivial od_ (Nat.le_trans (Nat.mul_le_mul_right _ (od_ : (l0.length : Int).toNat ≤ 70368744177664)) (by omega)) (Below.refl _ _) (Nat.le_refl _) ?_; (case hx => first | rfl); (case hy => first | rfl); intro v438 w5 ho6 hb hg_ hnew_; clear hg_ hnew_; (first | rw [← Ny437.out] at ho6 | (simp only [Int.reduceToNat] at ho6; rw [← Ny437.out] at ho6)); refine nx2_ (R_lower ho6 (below_size (bU_ HB.out))) (below_step (bU_ HB.out) hb) ?_; clear HB; intro HO439 HB; clear hb ho6))
 go_loopg [7, 8] k (fun kq v7 v8 w' => ∃ (x6_1 : List Int) (x7_1 : List Int) (x8_1 : Int), v8 = .int .i64 x8_1 ∧ Aside0 (attestorref02_quotient.l0 kq l0 l1 x6_1 x7_1 x8_1 = some (r1, r2)) ∧ Aside0 (kq ≤ k) ∧ Aside0 (Kd.R (Kd.int .u32) 115 w' w.heap.size (fun k_ => some k_ ≠ (v7 : Value).ownBlock) v438 x6_1) ∧ Aside0 (Kd.R (Kd.int .u32) 115 w' w.heap.size (fun k_ => some k_ ≠ (v438 : Value).ownBlock) v7 x7_1) ∧ Aside0 (Below w.heap.size w w'))
 case atStart => exact ⟨(y437), (([] : List Int)), (wrap64 ((wrap64 (32 * (l0.length : Int))) - 1)), gb_, H', ⟨Nat.le_refl _⟩, ⟨R_mono (rU_ HO439.out) (fun _ hk => (by simp [Value.ownBlock]))⟩, ⟨by first | exact Kd.R_nil _ _ _ _ _ | exact Kd.N_nil _ _ _ _ _ | exact Kd.V_nil _ _ _ _ _ | exact Kd.Q_nil _ _ _ _ _ | exact Kd.S_nil _ _ _ _ _⟩, ⟨bU_ HB.out⟩⟩
 case round =>
  clear H'
  (try clear c1); (try clear p2); (try clear c3); (try clear c3b0); (try clear c3b1); (try clear c4); (try clear c4b0); (try clear c4b1); (try clear p6)
  obtain ⟨x6_1, x7_1, x8_1, rfl, HA, HK1, HO_6, HO_7, HB⟩ := hrel
  cases gk with
  | zero => exact absurd HA.out (by simp [attestorref02_quotient.l0])
  | succ k1 =>
   have H := HA.out
   clear HA
   simp only [attestorref02_quotient.l0] at H
   by_cases c7 : x8_1 ≥ 0
   ·rw [if_pos c7] at H
    have c7b0 : decide (0 ≤ x8_1) = true := decide_eq_true c7
    clear c7
    revert H
    refine bd_ fun t443 A8 H => ?_
    revert H
    refine bd_ fun t446 A9 H => ?_
    have HC10 := ak H
    clear H
    obtain ⟨Ao11, co11, eo11⟩ := R_slice HO_7.out
    subst eo11
    go_upto_if 26 with (first | ((with_reducible refine gate_callee (f := 105) rfl ?_); refine gl_ (some 22) Tryd.func105 #[.slice Ao11 x7_1.length co11, .slice Ao11 x7_1.length co11] ?_; (with_reducible refine (attestorref02_sum.calls k1 _ _ x7_1 _ _ x7_1 t443 _ ?side1 ?side2 ?side3 ?side4 A8.out).mono ?_); (case side1 => exact cU_ ((R_reads' HO_7.out).2.2)); (case side2 => exact (R_reads' HO_7.out).2.1); (case side3 => exact cU_ ((R_reads' HO_7.out).2.2)); (case side4 => exact (R_reads' HO_7.out).2.1); rintro e w12 ⟨v444, rfl, ho0, hb⟩; refine ⟨_, rfl, ?_⟩; refine nx4_ (R_elder' (rU_ HO_6.out) (R_base ho0) hb) (R_elder' (rU_ HO_7.out) (R_base ho0) hb) (R_lower (R_new' (R_new' ho0 (R_lt (rU_ HO_6.out))) (R_lt (rU_ HO_7.out))) (below_size (bU_ HB.out))) (below_step (bU_ HB.out) hb) ?_; clear HO_6 HO_7 HB; intro HO_6 HO_7 HO445 HB; clear hb ho0) | ((with_reducible refine gate_callee (f := 148) rfl ?_); refine gl_ (some 25) Tryd.func148 #[.slice A0 l0.length c0, .int .i64 x8_1] ?_; (with_reducible refine (attestorref02_bit.calls _ _ l0 x8_1 t446 _ ?side1 ?side2 A9.out).mono ?_); (case side1 => exact cU_ (C_below HR0.out HB.out)); (case side2 => exact HC0.out); rintro e w' ⟨rfl, ⟨nd, rfl⟩⟩; refine ⟨_, rfl, ?_⟩))
    (try simp only [Act.put, s1_, s2_, s3_])
    go_cut [7] (fun v7 wc => ∃ (kq : Nat) (x7_9 : List Int), Aside0 (attestorref02_quotient.j1 kq l0 l1 x6_1 x7_9 x8_1 = some (r1, r2)) ∧ Aside0 (kq ≤ k1) ∧ Aside0 (Kd.R (Kd.int .u32) 115 wc w.heap.size (fun k_ => some k_ ≠ (v7 : Value).ownBlock) v438 x6_1) ∧ Aside0 (Kd.R (Kd.int .u32) 115 wc w.heap.size (fun k_ => some k_ ≠ (v438 : Value).ownBlock) v7 x7_9) ∧ Aside0 (Below w.heap.size w wc))
    case first =>
     have H := HC10.out
     clear HC10
     by_cases c13 : t446 = 1
     ·rw [if_pos c13] at H
      have c13b0 := beq_iff_eq.mpr c13
      have c13b1 := bne_eq_false_iff_eq.mpr c13
      clear c13
      (first | rw [c13b0] | (simp only [i64_w, i32_w]; rw [c13b0]) | rw [c13b1] | skip)
      obtain ⟨y447, hy447⟩ : ∃ y_ : List Int, y_ = (([1] : List Int)) := ⟨_, rfl⟩
      replace H : ((attestorref02_sum.f k1 t443 y447).bind fun t450 => (attestorref02_quotient.j1 k1 l0 l1 x6_1 t450 x8_1)) = some (r1, r2) := by first | (rw [hy447]; with_reducible exact H) | (have H2_ := (Option.bind_some _ _).symm.trans H; rw [hy447]; with_reducible exact H2_) | (have H2_ := (Option.bind_some _ _).symm.trans H; with_reducible exact H2_) | with_reducible exact H | (rw [hy447]; exact H) | exact H
      have Ny447 := ak hy447
      clear hy447
      revert H
      refine bd_ fun t450 A14 H => ?_
      have H' := ak H
      clear H
      go_wp2_with (first | ((with_reducible refine gate_dst (N := 28) rfl ?_); refine R_lit (Kd.int .u32) _ 115 ?hg (N := 28) ?hd (xs := ([1] : List Int)) (inner := [.int .u32 1]) (ok := fun _ => True) (okp := fun _ => True) ?hr ?hp (fun _ hk => hk) trivial (Below.refl _ _) (Nat.le_refl _) (by simp) ?_; (case hd => rfl); (case hg => rfl); (case hr => first | (go_simp; done) | (go_simp; rfl)); (case hp => exact (Reps.one (show Kd.M (Kd.int .u32) _ _ _ 1 [.int .u32 1] from rfl) (Reps.none _ _))); intro v448 w15 ho16 hb hg_ hnew_; clear hg_ hnew_; (first | rw [← Ny447.out] at ho16 | (simp only [Int.reduceToNat] at ho16; rw [← Ny447.out] at ho16)); refine nx5_ (R_elder' (rU_ HO_6.out) (R_base ho16) hb) (R_elder' (rU_ HO_7.out) (R_base ho16) hb) (R_elder' (rU_ HO445.out) (R_base ho16) hb) (R_lower (R_new' (R_new' (R_new' ho16 (R_lt (rU_ HO_6.out))) (R_lt (rU_ HO_7.out))) (R_lt (rU_ HO445.out))) (below_size (bU_ HB.out))) (below_step (bU_ HB.out) hb) ?_; clear HO_6 HO_7 HO445 HB; intro HO_6 HO_7 HO445 HO449 HB; clear hb ho16; obtain ⟨Ao17, co17, eo17⟩ := R_slice HO445.out; subst eo17; obtain ⟨Ao18, co18, eo18⟩ := R_slice HO449.out; subst eo18) | ((with_reducible refine gate_callee (f := 105) rfl ?_); refine gl_ (some 29) Tryd.func105 #[.slice Ao17 t443.length co17, .slice Ao18 y447.length co18] ?_; (with_reducible refine (attestorref02_sum.calls k1 _ _ t443 _ _ y447 t450 _ ?side1 ?side2 ?side3 ?side4 A14.out).mono ?_); (case side1 => exact cU_ ((R_reads' HO445.out).2.2)); (case side2 => exact (R_reads' HO445.out).2.1); (case side3 => exact cU_ ((R_reads' HO449.out).2.2)); (case side4 => exact (R_reads' HO449.out).2.1); rintro e w19 ⟨v451, rfl, ho0, hb⟩; refine ⟨_, rfl, ?_⟩; refine nx6_ (R_elder' (rU_ HO_6.out) (R_base ho0) hb) (R_elder' (rU_ HO_7.out) (R_base ho0) hb) (R_elder' (rU_ HO445.out) (R_base ho0) hb) (R_elder' (rU_ HO449.out) (R_base ho0) hb) (R_lower (R_new' (R_new' (R_new' (R_new' ho0 (R_lt (rU_ HO_6.out))) (R_lt (rU_ HO_7.out))) (R_lt (rU_ HO445.out))) (R_lt (rU_ HO449.out))) (below_size (bU_ HB.out))) (below_step (bU_ HB.out) hb) ?_; clear HO_6 HO_7 HO445 HO449 HB; intro HO_6 HO_7 HO445 HO449 HO452 HB; clear hb ho0))
      go_meet
      case rel => exact ⟨_, (t450), H', ⟨by have := HK1.out; first | omega | exact Nat.le_refl _⟩, ⟨R_mono (rU_ HO_6.out) (fun _ hk => hk.2)⟩, ⟨R_mono (rU_ HO452.out) (fun _ hk => hk.1.1.1.2)⟩, ⟨bU_ HB.out⟩⟩
     rw [if_neg c13] at H
     have c13b0 := beq_eq_false_iff_ne.mpr c13
     have c13b1 := bne_iff_ne.mpr c13
     (first | rw [c13b0] | (simp only [i64_w, i32_w]; rw [c13b0]) | rw [c13b1] | skip)
     have H' := ak H
     clear H
     go_wp2
     go_meet
     case rel => exact ⟨_, (t443), H', ⟨by have := HK1.out; first | omega | exact Nat.le_refl _⟩, ⟨R_mono (rU_ HO_6.out) (fun _ hk => hk.2)⟩, ⟨R_mono (rU_ HO445.out) (fun _ hk => hk.1.2)⟩, ⟨bU_ HB.out⟩⟩
    case rest =>
     clear HC10
     (try clear c1); (try clear p2); (try clear c3); (try clear c3b0); (try clear c3b1); (try clear c4); (try clear c4b0); (try clear c4b1); (try clear p6); (try clear c7); (try clear c7b0); (try clear c10); (try clear c12); (try clear c13); (try clear c13b0); (try clear c13b1); (try clear c14)
     obtain ⟨kq, x7_9, HA, HJ9, HO_6, HO_7, HB⟩ := hcut
     cases kq with
     | zero => exact absurd HA.out (by simp [attestorref02_quotient.j1])
     | succ kj9 =>
      have H := HA.out
      clear HA
      simp only [attestorref02_quotient.j1] at H
      revert H
      refine bd_ fun t453 A20 H => ?_
      by_cases c21 : t453 ≥ 0
      ·rw [if_pos c21] at H
       have c21b0 : decide (0 ≤ t453) = true := decide_eq_true c21
       clear c21
       revert H
       refine bd_ fun t454 A22 H => ?_
       obtain ⟨ji23, hji23⟩ : ∃ j_ : Int, (wrap64 (Int.tdiv x8_1 32)) = j_ := ⟨_, rfl⟩
       first | rw [hji23] at H | simp only [hji23] at H
       (try rw [hji23] at A20)
       (try rw [hji23] at A22)
       have hji23w : (IntKind.i64.wrap (Int.tdiv x8_1 32)) = ji23 := (i64_w _).trans hji23
       obtain ⟨c24, H⟩ : (0 ≤ (ji23)) ∧ _ := it_ H
       have c24b0 := decide_eq_true c24
       clear c24
       obtain ⟨c25, H⟩ : ((ji23) < (x6_1.length : Int)) ∧ _ := it_ H
       have c25b0 := decide_eq_true c25
       clear c25
       obtain ⟨ji26, hji26⟩ : ∃ j_ : Int, (IntKind.u64.wrap (Int.tmod x8_1 32)) = j_ := ⟨_, rfl⟩
       first | rw [hji26] at H | simp only [hji26] at H
       (try rw [hji26] at A20)
       (try rw [hji26] at A22)
       obtain ⟨c27, H⟩ : (0 ≤ (ji26)) ∧ _ := it_ H
       have c27b0 := eq_true c27
       have c27b1 := decide_eq_true c27
       clear c27
       obtain ⟨ji28, hji28⟩ : ∃ j_ : Int, (shl .u32 1 (ji26)) = j_ := ⟨_, rfl⟩
       first | rw [hji28] at H | simp only [hji28] at H
       (try rw [hji28] at A20)
       (try rw [hji28] at A22)
       have hji28_ : (IntKind.u32.wrap (1 * 2 ^ min (ji26).toNat 32)) = ji28 := hji28
       have hji28z : (ji26) ≤ 32 → (IntKind.u32.wrap (1 * 2 ^ (ji26).toNat)) = ji28 := shl_small hji28
       have hji28u : (IntKind.u32.wrap (2 ^ min (ji26).toNat 32)) = ji28 := by have h_ := hji28_; rw [Int.one_mul] at h_; exact h_
       have hji28v : (ji26) ≤ 32 → (IntKind.u32.wrap (2 ^ (ji26).toNat)) = ji28 := fun hle_ => by have h_ := hji28z hle_; rw [Int.one_mul] at h_; exact h_
       obtain ⟨y458, hy458⟩ : ∃ y_ : List Int, y_ = (x6_1.set ((ji23) : Int).toNat (((rd x6_1 (ji23)) + (ji28)) % 4294967296)) := ⟨_, rfl⟩
       first | rw [Option.bind_some, ← hy458] at H | rw [← hy458] at H
       have Ny458 := ak hy458
       clear hy458
       have H' := ak H
       clear H
       obtain ⟨Ao30, co30, eo30⟩ := R_slice HO_7.out
       subst eo30
       go_wp2_with (first | ((with_reducible refine gate_callee (f := 130) rfl ?_); refine gl_ (some 32) Tryd.func130 #[.slice Ao30 x7_9.length co30, .slice A1 l1.length c1] ?_; (with_reducible refine (attestorref02_order.calls kj9 _ _ x7_9 _ _ l1 t453 _ ?side1 ?side2 ?side3 ?side4 A20.out).mono ?_); (case side1 => exact cU_ ((R_reads' HO_7.out).2.2)); (case side2 => exact (R_reads' HO_7.out).2.1); (case side3 => exact cU_ (C_below HR1.out HB.out)); (case side4 => exact HC1.out); rintro e w' ⟨rfl, ⟨nd, rfl⟩⟩; refine ⟨_, rfl, ?_⟩; (try (rw [drewN_self wc]; generalize hq_ : World.drewN wc _ = wc; have n0_ : Aside0 (Kd.R (Kd.int .u32) 115 wc w.heap.size (fun k_ => some k_ ≠ (.slice Ao30 x7_9.length co30 : Value).ownBlock) v438 x6_1) := ⟨by rw [← hq_]; exact (rU_ HO_6.out)⟩; have n1_ : Aside0 (Kd.R (Kd.int .u32) 115 wc w.heap.size (fun k_ => some k_ ≠ (v438 : Value).ownBlock) (.slice Ao30 x7_9.length co30) x7_9) := ⟨by rw [← hq_]; exact (rU_ HO_7.out)⟩; have n2_ : Aside0 (Below w.heap.size w wc) := ⟨by rw [← hq_]; exact (bU_ HB.out)⟩; clear HO_6 HO_7 HB hq_; have HO_6 := n0_; have HO_7 := n1_; have HB := n2_; clear n0_ n1_ n2_))) | ((with_reducible refine gate_callee (f := 147) rfl ?_); refine gl_ (some 36) Tryd.func147 #[.slice Ao30 x7_9.length co30, .slice A1 l1.length c1] ?_; (with_reducible refine (attestorref02_diff.calls kj9 _ _ x7_9 _ _ l1 t454 _ ?side1 ?side2 ?side3 ?side4 A22.out).mono ?_); (case side1 => exact cU_ ((R_reads' HO_7.out).2.2)); (case side2 => exact (R_reads' HO_7.out).2.1); (case side3 => exact cU_ (C_below HR1.out HB.out)); (case side4 => exact HC1.out); rintro e w31 ⟨v455, rfl, ho0, hb⟩; refine ⟨_, rfl, ?_⟩; refine nx4_ (R_elder' (rU_ HO_6.out) (R_base ho0) hb) (R_elder' (rU_ HO_7.out) (R_base ho0) hb) (R_lower (R_new' (R_new' ho0 (R_lt (rU_ HO_6.out))) (R_lt (rU_ HO_7.out))) (below_size (bU_ HB.out))) (below_step (bU_ HB.out) hb) ?_; clear HO_6 HO_7 HB; intro HO_6 HO_7 HO456 HB; clear hb ho0; obtain ⟨Ao33, co33, eo33⟩ := R_slice HO_6.out; subst eo33; have pfr32 : 0 ≤ ((ji23) : Int) := od_; have qfr32 : ((ji23) : Int) < ((x6_1.length : Int) : Int) := od_; obtain ⟨gofr32, cofr32, eofr32, gbfr32, glfr32, clfr32, HGfr32⟩ := Kd.R_form HO_6.out (by omega); (first | cases eofr32 | (injection eofr32 with ea_ en_ ec_; (first | subst ea_ | (injection ea_ with ea_; subst ea_)); subst ec_; clear en_)); have GBfr32 := ak gbfr32; have GGfr32 := ak HGfr32; clear gbfr32 glfr32 HGfr32; clear pfr32 qfr32; have p457 : 0 ≤ ((ji23) : Int) := od_; have q457 : (ji23) < (x6_1.length : Int) := od_; obtain ⟨ad457, e457, hx457_0⟩ := Kd.at_int (R_reads' HO_6.out).2.2 (ji23) p457 q457; obtain rfl : (⟨gofr32, 0, none⟩ : Addr) = ad457 := (by injection e457); (first | simp only [add_plain] at hx457_0 | simp only [add_at] at hx457_0 | simp only [Addr.add, Nat.zero_add] at hx457_0 | skip); replace p457 := eq_true p457; replace q457 := eq_true q457; have p29 : 0 ≤ ((ji23) : Int) := od_; have q29 : ((ji23) : Int) < ((x6_1.length : Int) : Int) := od_; obtain ⟨hx29_0, hf29_0⟩ := Kd.R_celln 0 HO_6.out ((ji23) : Int) p29 q29; replace p29 := eq_true p29; replace q29 := eq_true q29; obtain ⟨hy34_, hz34_⟩ := Kd.R_celln 0 HO_6.out ((ji23) : Int) od_ od_; have HP34 := Kd.R_putg HO_6.out ((ji23) : Int) (((rd x6_1 (ji23)) + (ji28)) % 4294967296)) | ((with_reducible refine gate_store (t := 115) (p := 50) rfl ?_); refine store_event (t := 115) (p := 50) (v := ?vo_w35) (w1 := (w31.setCell ⟨gofr32, ((ji23) : Int).toNat, none⟩ (.int .u32 (((rd x6_1 (ji23)) + (ji28)) % 4294967296)))) ?hg ?ho ?hn ?hr ?_; (case ho => rfl); (case hg => rfl); (case hn => rfl); (case hr => first | (go_simp; done) | (go_simp; rfl)); intro w35 hw; have hg : w31.grownBy w35 (some gofr32) := (by rw [hw]; exact HP34.2); have hp_ : Kd.R (Kd.int .u32) 115 w35 w.heap.size (fun k_ => some k_ ≠ (.slice Ao30 x7_9.length co30 : Value).ownBlock ∧ some k_ ≠ (v455 : Value).ownBlock) (.slice (some ⟨gofr32, 0, none⟩) x6_1.length co33) y458 := (by rw [hw, Ny458.out]; exact HP34.1); clear HP34; refine nx4_ (hp_) (Kd.R_after (v := (.slice (some ⟨gofr32, 0, none⟩) x6_1.length co33)) (v1 := (.slice (some ⟨gofr32, 0, none⟩) x6_1.length co33)) (ok := (fun k_ => some k_ ≠ (v455 : Value).ownBlock)) (R_mono (rU_ HO_7.out) (fun _ hk => ⟨hk.2, hk.1⟩)) hg (.inl rfl)) (Kd.R_after (v := (.slice (some ⟨gofr32, 0, none⟩) x6_1.length co33)) (v1 := (.slice (some ⟨gofr32, 0, none⟩) x6_1.length co33)) (ok := (fun k_ => some k_ ≠ (.slice Ao30 x7_9.length co30 : Value).ownBlock)) (R_mono (rU_ HO456.out) (fun _ hk => ⟨hk.2, hk.1.2⟩)) hg (.inl rfl)) ((by rw [hw]; exact below_set (HB.out) GBfr32.out : Below w.heap.size w w35)) ?_; clear HO_6 HO_7 HO456 HB; intro HO_6 HO_7 HO456 HB; clear hg hw hp_))
       go_roundg kj9
       case measure => have := HK1.out; have := HJ9.out; omega
       case rel => exact ⟨(y458), (t454), (wrap64 (x8_1 - 1)), gb_, H', ⟨by have := HK1.out; have := HJ9.out; omega⟩, ⟨R_mono (rU_ HO_6.out) (fun _ hk => hk.2)⟩, ⟨R_mono (rU_ HO456.out) (fun _ hk => hk.2)⟩, ⟨bU_ HB.out⟩⟩
      rw [if_neg c21] at H
      have c21b0 : decide (0 ≤ t453) = false := decide_eq_false c21
      clear c21
      have H' := ak H
      clear H
      obtain ⟨Ao36, co36, eo36⟩ := R_slice HO_7.out
      subst eo36
      go_wp2_with (first | ((with_reducible refine gate_callee (f := 130) rfl ?_); refine gl_ (some 32) Tryd.func130 #[.slice Ao36 x7_9.length co36, .slice A1 l1.length c1] ?_; (with_reducible refine (attestorref02_order.calls kj9 _ _ x7_9 _ _ l1 t453 _ ?side1 ?side2 ?side3 ?side4 A20.out).mono ?_); (case side1 => exact cU_ ((R_reads' HO_7.out).2.2)); (case side2 => exact (R_reads' HO_7.out).2.1); (case side3 => exact cU_ (C_below HR1.out HB.out)); (case side4 => exact HC1.out); rintro e w' ⟨rfl, ⟨nd, rfl⟩⟩; refine ⟨_, rfl, ?_⟩))
      go_roundg kj9
      case measure => have := HK1.out; have := HJ9.out; omega
      case rel => exact ⟨(x6_1), (x7_9), (wrap64 (x8_1 - 1)), gb_, H', ⟨by have := HK1.out; have := HJ9.out; omega⟩, ⟨rU_ HO_6.out⟩, ⟨rU_ HO_7.out⟩, ⟨bU_ HB.out⟩⟩
   rw [if_neg c7] at H
   have c7b0 : decide (0 ≤ x8_1) = false := decide_eq_false c7
   clear c7
   revert H
   refine bd_ fun t440 A37 H => ?_
   simp only [Option.some.injEq, Prod.mk.injEq] at H
   obtain ⟨rfl, rfl⟩ := H
   obtain ⟨Ao38, co38, eo38⟩ := R_slice HO_6.out
   subst eo38
   go_wp2_with (first | ((with_reducible refine gate_callee (f := 126) rfl ?_); refine gl_ (some 52) Tryd.func126 #[.slice Ao38 x6_1.length co38] ?_; (with_reducible refine (attestorref02_trim.calls k1 _ _ x6_1 t440 _ ?side1 ?side2 A37.out).mono ?_); (case side1 => exact cU_ ((R_reads' HO_6.out).2.2)); (case side2 => exact (R_reads' HO_6.out).2.1); rintro e w39 ⟨v441, rfl, ho0, hb⟩; refine ⟨_, rfl, ?_⟩; refine nx4_ (R_elder' (rU_ HO_6.out) (R_base ho0) hb) (R_elder' (rU_ HO_7.out) (R_base ho0) hb) (R_lower (R_new' (R_new' ho0 (R_lt (rU_ HO_6.out))) (R_lt (rU_ HO_7.out))) (below_size (bU_ HB.out))) (below_step (bU_ HB.out) hb) ?_; clear HO_6 HO_7 HB; intro HO_6 HO_7 HO442 HB; clear hb ho0))
   go_ret2
   exact ⟨_, _, eW_, R_mono (rU_ HO442.out) (fun _ hk => hk.2), R_mono (rU_ HO_7.out) (fun _ hk => hk.2), bU_ HB.out⟩

def attestorref02_lowest.f (k : Nat) (l0 : List Int) (l1 : List Int) : Option (List Int × List Int × Int) := (attestorref02_gcd.f k l0 l1).bind fun t460 => ((attestorref02_quotient.f k l0 t460).bind fun bt463 => ((attestorref02_quotient.f k l1 t460).bind fun bt469 => (if (bt463.1.length : Int) > 64 then (some (([] : List Int), ([] : List Int), 3)) else (if (bt469.1.length : Int) > 64 then (some (([] : List Int), ([] : List Int), 3)) else (some (bt463.1, bt469.1, 0))))))
set_option maxHeartbeats 8000000 in
set_option maxRecDepth 100000 in
theorem attestorref02_lowest.calls (k : Nat) (A0 : Option Addr) (c0 : Nat) (l0 : List Int) (A1 : Option Addr) (c1 : Nat) (l1 : List Int) (r1 : List Int) (r2 : List Int) (r3 : Int) (w : World) (hr0 : Kd.C (Kd.int .u32) w A0 l0.length l0) (hc0 : l0.length ≤ c0) (hr1 : Kd.C (Kd.int .u32) w A1 l1.length l1) (hc1 : l1.length ≤ c1) (h : attestorref02_lowest.f k l0 l1 = some (r1, r2, r3)) :
  Calls Tryd.prog 104 #[.slice A0 l0.length c0, .slice A1 l1.length c1] w fun e w' => ∃ v0_ v1_ : Value, e = .returned (.tuple #[.agg #[v0_, v1_], .int .i64 r3]) ∧ Kd.R (Kd.int .u32) 115 w' w.heap.size (fun k_ => some k_ ≠ (v1_ : Value).ownBlock) v0_ r1 ∧ Kd.R (Kd.int .u32) 115 w' w.heap.size (fun k_ => some k_ ≠ (v0_ : Value).ownBlock) v1_ r2 ∧ Below w.heap.size w w' := by
 have hu26 := Tryd.underlying26
 have HR0 := ak hr0
 have HC0 := ak hc0
 clear hr0 hc0
 have HR1 := ak hr1
 have HC1 := ak hc1
 clear hr1 hc1
 have HB := ak (Below.refl w.heap.size w)
 have H := h
 clear h
 unfold attestorref02_lowest.f at H
 revert H
 refine bd_ fun t460 A3 H => ?_
 revert H
 refine bd2_ fun t463 t464 A4 H => ?_
 try dsimp only at H
 revert H
 refine bd2_ fun t469 t470 A5 H => ?_
 try dsimp only at H
 by_cases c6 : (t463.length : Int) > 64
 ·rw [if_pos c6] at H
  have c6b0 : decide (64 < (t463.length : Int)) = true := decide_eq_true c6
  have c6b1 : decide (64 < t463.length) = true := decide_eq_true (by omega)
  clear c6
  simp only [Option.some.injEq, Prod.mk.injEq] at H
  obtain ⟨rfl, rfl, rfl⟩ := H
  go_enter Tryd.func104, Tryd.ntmps104
  go_wp2_with (first | ((with_reducible refine gate_dst (N := 4) rfl ?_); (try (refine gate_guard (by rfl) ?_; dsimp only)); refine bx_ 4 26 #[.slice none 0 0, .slice none 0 0] ?_; intro gb459 hg w7 hbox hb; refine nx4_ (below_step (bU_ HB.out) hb) (hbox) ((hs_ hg (below_size (bU_ HB.out)))) ((hs_ hg (below_size (bU_ HB.out)))) ?_; clear HB; intro HB BK459 GW459 GE459; clear hb hbox hg) | ((with_reducible refine gate_callee (f := 127) rfl ?_); refine gl_ (some 13) Tryd.func127 #[.slice A0 l0.length c0, .slice A1 l1.length c1] ?_; (with_reducible refine (attestorref02_gcd.calls k (fun k_ => k_ < w.heap.size) _ _ l0 (fun k_ => k_ < w.heap.size) _ _ l1 t460 _ ?side1 ?side2 A3.out).mono ?_); (case side1 => exact V_mk HC0.out (F_below (C_F (heap_int .u32) HR0.out) sU_)); (case side2 => exact V_mk HC1.out (F_below (C_F (heap_int .u32) HR1.out) sU_)); rintro e w8 ⟨v461, rfl, ho0, hb⟩; refine ⟨_, rfl, ?_⟩; refine nx3_ (R_lower (R_mono (ok' := fun k_ => True) ho0 (fun _ hk_ => trivial)) (below_size sU_)) (blk_below (kU_ BK459.out) hb) (below_step sU_ hb) ?_; clear BK459 HB; intro HO462 BK459 HB; clear hb ho0; obtain ⟨Ao9, co9, eo9⟩ := R_slice HO462.out; subst eo9) | ((with_reducible refine gate_callee (f := 128) rfl ?_); refine gl_ (some 17) Tryd.func128 #[.slice A0 l0.length c0, .slice Ao9 t460.length co9] ?_; (with_reducible refine (attestorref02_quotient.calls k _ _ l0 _ _ t460 t463 t464 _ ?side1 ?side2 ?side3 ?side4 A4.out).mono ?_); (case side1 => exact cU_ (C_below HR0.out HB.out)); (case side2 => exact HC0.out); (case side3 => exact cU_ ((R_reads' HO462.out).2.2)); (case side4 => exact (R_reads' HO462.out).2.1); rintro e w10 ⟨v465, v467, rfl, ho0, ho1, hb⟩; refine ⟨_, rfl, ?_⟩; refine nx5_ (R_mono (Kd.R_told (Kd.R_told (Kd.R_old (rU_ HO462.out) hb) (R_base ho0)) (R_base ho1)) (fun _ h_ => h_.1)) (R_lower (R_new' ho0 (R_lt (rU_ HO462.out))) (below_size sU_)) (R_lower (R_new' ho1 (R_lt (rU_ HO462.out))) (below_size sU_)) (blk_below (kU_ BK459.out) hb) (below_step sU_ hb) ?_; clear HO462 BK459 HB; intro HO462 HO466 HO468 BK459 HB; clear hb ho0 ho1) | ((with_reducible refine gate_callee (f := 128) rfl ?_); refine gl_ (some 23) Tryd.func128 #[.slice A1 l1.length c1, .slice Ao9 t460.length co9] ?_; (with_reducible refine (attestorref02_quotient.calls k _ _ l1 _ _ t460 t469 t470 _ ?side1 ?side2 ?side3 ?side4 A5.out).mono ?_); (case side1 => exact cU_ (C_below HR1.out HB.out)); (case side2 => exact HC1.out); (case side3 => exact cU_ ((R_reads' HO462.out).2.2)); (case side4 => exact (R_reads' HO462.out).2.1); rintro e w11 ⟨v471, v473, rfl, ho0, ho1, hb⟩; refine ⟨_, rfl, ?_⟩; refine nx7_ (R_mono (Kd.R_told (Kd.R_told (Kd.R_old (rU_ HO462.out) hb) (R_base ho0)) (R_base ho1)) (fun _ h_ => h_.1)) (R_mono (Kd.R_told (Kd.R_told (Kd.R_old (rU_ HO466.out) hb) (R_base ho0)) (R_base ho1)) (fun _ h_ => h_.1)) (R_mono (Kd.R_told (Kd.R_told (Kd.R_old (rU_ HO468.out) hb) (R_base ho0)) (R_base ho1)) (fun _ h_ => h_.1)) (R_lower (R_new' (R_new' (R_new' ho0 (R_lt (rU_ HO462.out))) (R_lt (rU_ HO466.out))) (R_lt (rU_ HO468.out))) (below_size sU_)) (R_lower (R_new' (R_new' (R_new' ho1 (R_lt (rU_ HO462.out))) (R_lt (rU_ HO466.out))) (R_lt (rU_ HO468.out))) (below_size sU_)) (blk_below (kU_ BK459.out) hb) (below_step sU_ hb) ?_; clear HO462 HO466 HO468 BK459 HB; intro HO462 HO466 HO468 HO472 HO474 BK459 HB; clear hb ho0 ho1; obtain ⟨Ao12, co12, eo12⟩ := R_slice HO466.out; subst eo12; have hcz13_0 := bc0_ BK459.out; have hcz13_1 := bc1_ BK459.out; have hfz13_0 := blk_frozen BK459.out 0; have hfz13_1 := blk_frozen BK459.out 1))
  refine bodyPost_ret (results_ct rfl _ _ gb459 26 #[.slice none 0 0, .slice none 0 0] (0, 0) _ rfl kp_ Tryd.underlying26 rfl (by kernel_rfl)) rfl ?_
  exact ⟨_, _, eW_, by first | exact Kd.R_nil _ _ _ _ _ | exact Kd.N_nil _ _ _ _ _ | exact Kd.V_nil _ _ _ _ _ | exact Kd.Q_nil _ _ _ _ _ | exact Kd.S_nil _ _ _ _ _, by first | exact Kd.R_nil _ _ _ _ _ | exact Kd.N_nil _ _ _ _ _ | exact Kd.V_nil _ _ _ _ _ | exact Kd.Q_nil _ _ _ _ _ | exact Kd.S_nil _ _ _ _ _, sU_⟩
 rw [if_neg c6] at H
 have c6b0 : decide (64 < (t463.length : Int)) = false := decide_eq_false c6
 have c6b1 : decide (64 < t463.length) = false := decide_eq_false (by omega)
 clear c6
 by_cases c14 : (t469.length : Int) > 64
 ·rw [if_pos c14] at H
  have c14b0 : decide (64 < (t469.length : Int)) = true := decide_eq_true c14
  have c14b1 : decide (64 < t469.length) = true := decide_eq_true (by omega)
  clear c14
  simp only [Option.some.injEq, Prod.mk.injEq] at H
  obtain ⟨rfl, rfl, rfl⟩ := H
  go_enter Tryd.func104, Tryd.ntmps104
  go_wp2_with (first | ((with_reducible refine gate_dst (N := 4) rfl ?_); (try (refine gate_guard (by rfl) ?_; dsimp only)); refine bx_ 4 26 #[.slice none 0 0, .slice none 0 0] ?_; intro gb459 hg w15 hbox hb; refine nx4_ (below_step (bU_ HB.out) hb) (hbox) ((hs_ hg (below_size (bU_ HB.out)))) ((hs_ hg (below_size (bU_ HB.out)))) ?_; clear HB; intro HB BK459 GW459 GE459; clear hb hbox hg) | ((with_reducible refine gate_callee (f := 127) rfl ?_); refine gl_ (some 13) Tryd.func127 #[.slice A0 l0.length c0, .slice A1 l1.length c1] ?_; (with_reducible refine (attestorref02_gcd.calls k (fun k_ => k_ < w.heap.size) _ _ l0 (fun k_ => k_ < w.heap.size) _ _ l1 t460 _ ?side1 ?side2 A3.out).mono ?_); (case side1 => exact V_mk HC0.out (F_below (C_F (heap_int .u32) HR0.out) sU_)); (case side2 => exact V_mk HC1.out (F_below (C_F (heap_int .u32) HR1.out) sU_)); rintro e w16 ⟨v461, rfl, ho0, hb⟩; refine ⟨_, rfl, ?_⟩; refine nx3_ (R_lower (R_mono (ok' := fun k_ => True) ho0 (fun _ hk_ => trivial)) (below_size sU_)) (blk_below (kU_ BK459.out) hb) (below_step sU_ hb) ?_; clear BK459 HB; intro HO462 BK459 HB; clear hb ho0; obtain ⟨Ao17, co17, eo17⟩ := R_slice HO462.out; subst eo17) | ((with_reducible refine gate_callee (f := 128) rfl ?_); refine gl_ (some 17) Tryd.func128 #[.slice A0 l0.length c0, .slice Ao17 t460.length co17] ?_; (with_reducible refine (attestorref02_quotient.calls k _ _ l0 _ _ t460 t463 t464 _ ?side1 ?side2 ?side3 ?side4 A4.out).mono ?_); (case side1 => exact cU_ (C_below HR0.out HB.out)); (case side2 => exact HC0.out); (case side3 => exact cU_ ((R_reads' HO462.out).2.2)); (case side4 => exact (R_reads' HO462.out).2.1); rintro e w18 ⟨v465, v467, rfl, ho0, ho1, hb⟩; refine ⟨_, rfl, ?_⟩; refine nx5_ (R_mono (Kd.R_told (Kd.R_told (Kd.R_old (rU_ HO462.out) hb) (R_base ho0)) (R_base ho1)) (fun _ h_ => h_.1)) (R_lower (R_new' ho0 (R_lt (rU_ HO462.out))) (below_size sU_)) (R_lower (R_new' ho1 (R_lt (rU_ HO462.out))) (below_size sU_)) (blk_below (kU_ BK459.out) hb) (below_step sU_ hb) ?_; clear HO462 BK459 HB; intro HO462 HO466 HO468 BK459 HB; clear hb ho0 ho1) | ((with_reducible refine gate_callee (f := 128) rfl ?_); refine gl_ (some 23) Tryd.func128 #[.slice A1 l1.length c1, .slice Ao17 t460.length co17] ?_; (with_reducible refine (attestorref02_quotient.calls k _ _ l1 _ _ t460 t469 t470 _ ?side1 ?side2 ?side3 ?side4 A5.out).mono ?_); (case side1 => exact cU_ (C_below HR1.out HB.out)); (case side2 => exact HC1.out); (case side3 => exact cU_ ((R_reads' HO462.out).2.2)); (case side4 => exact (R_reads' HO462.out).2.1); rintro e w19 ⟨v471, v473, rfl, ho0, ho1, hb⟩; refine ⟨_, rfl, ?_⟩; refine nx7_ (R_mono (Kd.R_told (Kd.R_told (Kd.R_old (rU_ HO462.out) hb) (R_base ho0)) (R_base ho1)) (fun _ h_ => h_.1)) (R_mono (Kd.R_told (Kd.R_told (Kd.R_old (rU_ HO466.out) hb) (R_base ho0)) (R_base ho1)) (fun _ h_ => h_.1)) (R_mono (Kd.R_told (Kd.R_told (Kd.R_old (rU_ HO468.out) hb) (R_base ho0)) (R_base ho1)) (fun _ h_ => h_.1)) (R_lower (R_new' (R_new' (R_new' ho0 (R_lt (rU_ HO462.out))) (R_lt (rU_ HO466.out))) (R_lt (rU_ HO468.out))) (below_size sU_)) (R_lower (R_new' (R_new' (R_new' ho1 (R_lt (rU_ HO462.out))) (R_lt (rU_ HO466.out))) (R_lt (rU_ HO468.out))) (below_size sU_)) (blk_below (kU_ BK459.out) hb) (below_step sU_ hb) ?_; clear HO462 HO466 HO468 BK459 HB; intro HO462 HO466 HO468 HO472 HO474 BK459 HB; clear hb ho0 ho1; obtain ⟨Ao20, co20, eo20⟩ := R_slice HO466.out; subst eo20; obtain ⟨Ao21, co21, eo21⟩ := R_slice HO472.out; subst eo21; have hcz22_0 := bc0_ BK459.out; have hcz22_1 := bc1_ BK459.out; have hfz22_0 := blk_frozen BK459.out 0; have hfz22_1 := blk_frozen BK459.out 1))
  refine bodyPost_ret (results_ct rfl _ _ gb459 26 #[.slice none 0 0, .slice none 0 0] (0, 0) _ rfl kp_ Tryd.underlying26 rfl (by kernel_rfl)) rfl ?_
  exact ⟨_, _, eW_, by first | exact Kd.R_nil _ _ _ _ _ | exact Kd.N_nil _ _ _ _ _ | exact Kd.V_nil _ _ _ _ _ | exact Kd.Q_nil _ _ _ _ _ | exact Kd.S_nil _ _ _ _ _, by first | exact Kd.R_nil _ _ _ _ _ | exact Kd.N_nil _ _ _ _ _ | exact Kd.V_nil _ _ _ _ _ | exact Kd.Q_nil _ _ _ _ _ | exact Kd.S_nil _ _ _ _ _, sU_⟩
 rw [if_neg c14] at H
 have c14b0 : decide (64 < (t469.length : Int)) = false := decide_eq_false c14
 have c14b1 : decide (64 < t469.length) = false := decide_eq_false (by omega)
 clear c14
 simp only [Option.some.injEq, Prod.mk.injEq] at H
 obtain ⟨rfl, rfl, rfl⟩ := H
 go_enter Tryd.func104, Tryd.ntmps104
 go_wp2_with (first | ((with_reducible refine gate_dst (N := 4) rfl ?_); (try (refine gate_guard (by rfl) ?_; dsimp only)); refine bx_ 4 26 #[.slice none 0 0, .slice none 0 0] ?_; intro gb459 hg w23 hbox hb; refine nx4_ (below_step (bU_ HB.out) hb) (hbox) ((hs_ hg (below_size (bU_ HB.out)))) ((hs_ hg (below_size (bU_ HB.out)))) ?_; clear HB; intro HB BK459 GW459 GE459; clear hb hbox hg) | ((with_reducible refine gate_callee (f := 127) rfl ?_); refine gl_ (some 13) Tryd.func127 #[.slice A0 l0.length c0, .slice A1 l1.length c1] ?_; (with_reducible refine (attestorref02_gcd.calls k (fun k_ => k_ < w.heap.size) _ _ l0 (fun k_ => k_ < w.heap.size) _ _ l1 t460 _ ?side1 ?side2 A3.out).mono ?_); (case side1 => exact V_mk HC0.out (F_below (C_F (heap_int .u32) HR0.out) sU_)); (case side2 => exact V_mk HC1.out (F_below (C_F (heap_int .u32) HR1.out) sU_)); rintro e w24 ⟨v461, rfl, ho0, hb⟩; refine ⟨_, rfl, ?_⟩; refine nx3_ (R_lower (R_mono (ok' := fun k_ => True) ho0 (fun _ hk_ => trivial)) (below_size sU_)) (blk_below (kU_ BK459.out) hb) (below_step sU_ hb) ?_; clear BK459 HB; intro HO462 BK459 HB; clear hb ho0; obtain ⟨Ao25, co25, eo25⟩ := R_slice HO462.out; subst eo25) | ((with_reducible refine gate_callee (f := 128) rfl ?_); refine gl_ (some 17) Tryd.func128 #[.slice A0 l0.length c0, .slice Ao25 t460.length co25] ?_; (with_reducible refine (attestorref02_quotient.calls k _ _ l0 _ _ t460 t463 t464 _ ?side1 ?side2 ?side3 ?side4 A4.out).mono ?_); (case side1 => exact cU_ (C_below HR0.out HB.out)); (case side2 => exact HC0.out); (case side3 => exact cU_ ((R_reads' HO462.out).2.2)); (case side4 => exact (R_reads' HO462.out).2.1); rintro e w26 ⟨v465, v467, rfl, ho0, ho1, hb⟩; refine ⟨_, rfl, ?_⟩; refine nx5_ (R_mono (Kd.R_told (Kd.R_told (Kd.R_old (rU_ HO462.out) hb) (R_base ho0)) (R_base ho1)) (fun _ h_ => h_.1)) (R_lower (R_new' ho0 (R_lt (rU_ HO462.out))) (below_size sU_)) (R_lower (R_new' ho1 (R_lt (rU_ HO462.out))) (below_size sU_)) (blk_below (kU_ BK459.out) hb) (below_step sU_ hb) ?_; clear HO462 BK459 HB; intro HO462 HO466 HO468 BK459 HB; clear hb ho0 ho1) | ((with_reducible refine gate_callee (f := 128) rfl ?_); refine gl_ (some 23) Tryd.func128 #[.slice A1 l1.length c1, .slice Ao25 t460.length co25] ?_; (with_reducible refine (attestorref02_quotient.calls k _ _ l1 _ _ t460 t469 t470 _ ?side1 ?side2 ?side3 ?side4 A5.out).mono ?_); (case side1 => exact cU_ (C_below HR1.out HB.out)); (case side2 => exact HC1.out); (case side3 => exact cU_ ((R_reads' HO462.out).2.2)); (case side4 => exact (R_reads' HO462.out).2.1); rintro e w27 ⟨v471, v473, rfl, ho0, ho1, hb⟩; refine ⟨_, rfl, ?_⟩; refine nx7_ (R_mono (Kd.R_told (Kd.R_told (Kd.R_old (rU_ HO462.out) hb) (R_base ho0)) (R_base ho1)) (fun _ h_ => h_.1)) (R_mono (Kd.R_told (Kd.R_told (Kd.R_old (rU_ HO466.out) hb) (R_base ho0)) (R_base ho1)) (fun _ h_ => h_.1)) (R_mono (Kd.R_told (Kd.R_told (Kd.R_old (rU_ HO468.out) hb) (R_base ho0)) (R_base ho1)) (fun _ h_ => h_.1)) (R_lower (R_new' (R_new' (R_new' ho0 (R_lt (rU_ HO462.out))) (R_lt (rU_ HO466.out))) (R_lt (rU_ HO468.out))) (below_size sU_)) (R_lower (R_new' (R_new' (R_new' ho1 (R_lt (rU_ HO462.out))) (R_lt (rU_ HO466.out))) (R_lt (rU_ HO468.out))) (below_size sU_)) (blk_below (kU_ BK459.out) hb) (below_step sU_ hb) ?_; clear HO462 HO466 HO468 BK459 HB; intro HO462 HO466 HO468 HO472 HO474 BK459 HB; clear hb ho0 ho1; obtain ⟨Ao28, co28, eo28⟩ := R_slice HO466.out; subst eo28; obtain ⟨Ao29, co29, eo29⟩ := R_slice HO472.out; subst eo29; have hcz30_0 := bc0_ BK459.out; have hcz30_1 := bc1_ BK459.out; have hfz30_0 := blk_frozen BK459.out 0; have hfz30_1 := blk_frozen BK459.out 1))
 refine bodyPost_ret (results_ct rfl _ _ gb459 26 #[.slice Ao28 t463.length co28, .slice Ao29 t469.length co29] (0, 0) _ rfl kp_ Tryd.underlying26 rfl (by kernel_rfl)) rfl ?_
 exact ⟨_, _, eW_, by (with_reducible repeat (first | apply Kd.R_alloc | apply Kd.R_drewN | apply R_drew)); exact R_mono (R_far (p := ⟨gb459, 1, none⟩) (R_far (p := ⟨gb459, 0, none⟩) (R_types HO466.out BK459.out (by decide)) (fun _ hk => hk.2) (.slice Ao28 t463.length co28)) (fun _ hk => hk.2) (.slice Ao29 t469.length co29)) (fun _ hk => hk.1.1.2), by (with_reducible repeat (first | apply Kd.R_alloc | apply Kd.R_drewN | apply R_drew)); exact R_mono (R_far (p := ⟨gb459, 1, none⟩) (R_far (p := ⟨gb459, 0, none⟩) (R_types HO472.out BK459.out (by decide)) (fun _ hk => hk.2) (.slice Ao28 t463.length co28)) (fun _ hk => hk.2) (.slice Ao29 t469.length co29)) (fun _ hk => hk.1.1.2), sU_⟩

def attestorref02_ValidNat.f (l0 : List Int) : Option (Bool) := if (l0.length : Int) ≤ 64 then (if (l0.length : Int) = 0 then (some true) else (if 0 ≤ (wrap64 ((l0.length : Int) - 1)) then (if (wrap64 ((l0.length : Int) - 1)) < (l0.length : Int) then (some ((rd l0 (wrap64 ((l0.length : Int) - 1))) != 0)) else (none)) else (none))) else (some false)
set_option maxHeartbeats 8000000 in
set_option maxRecDepth 100000 in
theorem attestorref02_ValidNat.calls (A0 : Option Addr) (c0 : Nat) (l0 : List Int) (r : Bool) (w : World) (hr0 : Kd.C (Kd.int .u32) w A0 l0.length l0) (hc0 : l0.length ≤ c0) (h : attestorref02_ValidNat.f l0 = some r) :
  Calls Tryd.prog 125 #[.slice A0 l0.length c0] w fun e w' => e = .returned (.bool r) ∧ Drawn0 w w' := by
 have HR0 := ak hr0
 have HC0 := ak hc0
 clear hr0 hc0
 have H := h
 clear h
 unfold attestorref02_ValidNat.f at H
 by_cases c2 : (l0.length : Int) ≤ 64
 ·rw [if_pos c2] at H
  have c2b0 := decide_eq_true c2
  have c2b1 : decide (l0.length ≤ 64) = true := decide_eq_true (by omega)
  clear c2
  by_cases c3 : (l0.length : Int) = 0
  ·rw [if_pos c3] at H
   have c3b0 := beq_iff_eq.mpr c3
   have c3b1 := bne_eq_false_iff_eq.mpr c3
   clear c3
   obtain rfl := Option.some.inj H
   go_enter Tryd.func125, Tryd.ntmps125
   go_wp2
   go_ret
   exact ⟨by first | rfl | (simp; done) | (simp [*]; done), by repeat (first | exact Drawn0.refl _ | apply Drawn0.step)⟩
  rw [if_neg c3] at H
  have c3b0 := beq_eq_false_iff_ne.mpr c3
  have c3b1 := bne_iff_ne.mpr c3
  have c3b2 : ¬ (l0 = []) := fun h_ => c3 (by rw [h_]; rfl)
  obtain ⟨ji4, hji4⟩ : ∃ j_ : Int, (wrap64 ((l0.length : Int) - 1)) = j_ := ⟨_, rfl⟩
  first | rw [hji4] at H | simp only [hji4] at H
  have hji4w : (IntKind.i64.wrap ((l0.length : Int) - 1)) = ji4 := (i64_w _).trans hji4
  obtain ⟨c5, H⟩ : (0 ≤ (ji4)) ∧ _ := it_ H
  have c5b0 := decide_eq_true c5
  clear c5
  obtain ⟨c6, H⟩ : ((ji4) < (l0.length : Int)) ∧ _ := it_ H
  have c6b0 := decide_eq_true c6
  clear c6
  obtain rfl := Option.some.inj H
  have p475 : 0 ≤ ((ji4) : Int) := od_
  have q475 : (ji4) < (l0.length : Int) := od_
  obtain ⟨ad475, e475, hx475_0⟩ := Kd.at_int HR0.out (ji4) p475 q475
  cases e475
  replace p475 := eq_true p475
  replace q475 := eq_true q475
  go_enter Tryd.func125, Tryd.ntmps125
  go_wp2
  go_ret
  exact ⟨by first | rfl | (simp; done) | (simp only [← hji4] <;> (first | rfl | simp)) | (simp [*]; done), by repeat (first | exact Drawn0.refl _ | apply Drawn0.step)⟩
 rw [if_neg c2] at H
 have c2b0 := decide_eq_false c2
 have c2b1 : decide (l0.length ≤ 64) = false := decide_eq_false (by omega)
 clear c2
 obtain rfl := Option.some.inj H
 go_enter Tryd.func125, Tryd.ntmps125
 go_wp2
 go_ret
 exact ⟨by first | rfl | (simp; done) | (simp [*]; done), by repeat (first | exact Drawn0.refl _ | apply Drawn0.step)⟩

def attestorref02_New.j0 : Nat → List Int → List Int → Bool → Option (List Int × List Int × Int)
 | 0, _, _, _ => none
 | k + 1, x0, x1, x13 => if x13 = true then (some (([] : List Int), ([] : List Int), 1)) else (if (x1.length : Int) = 0 then (some (([] : List Int), ([] : List Int), 2)) else ((attestorref02_lowest.f k x0 x1).bind fun bt479 => (some (bt479.1, bt479.2.1, bt479.2.2))))
def attestorref02_New.f (k : Nat) (l0 : List Int) (l1 : List Int) : Option (List Int × List Int × Int) := (attestorref02_ValidNat.f l0).bind fun t477 => (if t477 = true then ((attestorref02_ValidNat.f l1).bind fun t478 => (attestorref02_New.j0 k l0 l1 (!t478))) else (attestorref02_New.j0 k l0 l1 true))
set_option maxHeartbeats 8000000 in
set_option maxRecDepth 100000 in
theorem attestorref02_New.calls (k : Nat) (A0 : Option Addr) (c0 : Nat) (l0 : List Int) (A1 : Option Addr) (c1 : Nat) (l1 : List Int) (r1 : List Int) (r2 : List Int) (r3 : Int) (w : World) (hr0 : Kd.C (Kd.int .u32) w A0 l0.length l0) (hc0 : l0.length ≤ c0) (hr1 : Kd.C (Kd.int .u32) w A1 l1.length l1) (hc1 : l1.length ≤ c1) (h : attestorref02_New.f k l0 l1 = some (r1, r2, r3)) :
  Calls Tryd.prog 100 #[.slice A0 l0.length c0, .slice A1 l1.length c1] w fun e w' => ∃ v0_ v1_ : Value, e = .returned (.tuple #[.agg #[v0_, v1_], .int .i64 r3]) ∧ Kd.R (Kd.int .u32) 115 w' w.heap.size (fun k_ => some k_ ≠ (v1_ : Value).ownBlock) v0_ r1 ∧ Kd.R (Kd.int .u32) 115 w' w.heap.size (fun k_ => some k_ ≠ (v0_ : Value).ownBlock) v1_ r2 ∧ Below w.heap.size w w' := by
 have hu26 := Tryd.underlying26
 have HR0 := ak hr0
 have HC0 := ak hc0
 clear hr0 hc0
 have HR1 := ak hr1
 have HC1 := ak hc1
 clear hr1 hc1
 have HB := ak (Below.refl w.heap.size w)
 have H := h
 clear h
 unfold attestorref02_New.f at H
 have HC3 := ak H
 clear H
 go_enter Tryd.func100, Tryd.ntmps100
 go_upto_region 1 with (first | ((with_reducible refine gate_dst (N := 4) rfl ?_); refine bx_ 4 26 #[.slice none 0 0, .slice none 0 0] ?_; intro gb476 hg w4 hbox hb; refine nx4_ (below_step (bU_ HB.out) hb) (hbox) ((hs_ hg (below_size (bU_ HB.out)))) ((hs_ hg (below_size (bU_ HB.out)))) ?_; clear HB; intro HB BK476 GW476 GE476; clear hb hbox hg))
 (try simp only [Act.put, s1_, s2_, s3_])
 go_cut [13] (fun v13 wc => ∃ (kq : Nat) (x13_2 : Bool), v13 = .bool x13_2 ∧ Aside0 (attestorref02_New.j0 kq l0 l1 x13_2 = some (r1, r2, r3)) ∧ Aside0 (kq ≤ k) ∧ Aside0 (wc.heap[gb476]? = some (.cells #[(.slice none 0 0), (.slice none 0 0)] 26 (0, 0))) ∧ Aside0 (Below w.heap.size w wc))
 case first =>
  have H := HC3.out
  clear HC3
  revert H
  refine bd_ fun t477 A5 H => ?_
  by_cases c6 : t477 = true
  ·subst c6
   rw [if_pos rfl] at H
   revert H
   refine bd_ fun t478 A7 H => ?_
   have H' := ak H
   clear H
   go_wp2_with (first | ((with_reducible refine gate_callee (f := 125) rfl ?_); refine gl_ (some 7) Tryd.func125 #[.slice A0 l0.length c0] ?_; (with_reducible refine (attestorref02_ValidNat.calls _ _ l0 true _ ?side1 ?side2 A5.out).mono ?_); (case side1 => exact cU_ (C_below HR0.out HB.out)); (case side2 => exact HC0.out); rintro e w' ⟨rfl, ⟨nd, rfl⟩⟩; refine ⟨_, rfl, ?_⟩) | (go_at_call 125; (with_reducible refine (attestorref02_ValidNat.calls _ _ l1 t478 _ ?side1 ?side2 A7.out).mono ?_); (case side1 => repeat (first | exact (C_below HR1.out sU_) | (with_reducible refine Kd.C_alloc ?_ _) | (with_reducible refine Kd.C_drewN ?_ _) | (with_reducible refine Kd.C_drew ?_))); (case side2 => exact HC1.out); rintro e w' ⟨rfl, ⟨nd, rfl⟩⟩))
   go_meet
   case rel => exact ⟨_, (!t478), gb_, H', ⟨by first | omega | exact Nat.le_refl _⟩, ⟨by (with_reducible repeat (first | refine blk_drewN ?_ _ | refine blk_drew ?_ | refine blk_alloc ?_ _)); exact BK476.out⟩, ⟨sU_⟩⟩
  replace c6 := Bool.eq_false_iff.mpr c6
  subst c6
  rw [if_neg (show ¬ (false = true) by decide)] at H
  have H' := ak H
  clear H
  go_wp2_with (first | ((with_reducible refine gate_callee (f := 125) rfl ?_); refine gl_ (some 7) Tryd.func125 #[.slice A0 l0.length c0] ?_; (with_reducible refine (attestorref02_ValidNat.calls _ _ l0 false _ ?side1 ?side2 A5.out).mono ?_); (case side1 => exact cU_ (C_below HR0.out HB.out)); (case side2 => exact HC0.out); rintro e w' ⟨rfl, ⟨nd, rfl⟩⟩; refine ⟨_, rfl, ?_⟩))
  go_meet
  case rel => exact ⟨_, (true), gb_, H', ⟨by first | omega | exact Nat.le_refl _⟩, ⟨by (with_reducible repeat (first | refine blk_drewN ?_ _ | refine blk_drew ?_ | refine blk_alloc ?_ _)); exact BK476.out⟩, ⟨sU_⟩⟩
 case rest =>
  clear HC3
  (try clear c1); (try clear p2); (try clear c6)
  obtain ⟨kq, x13_2, rfl, HA, HJ2, BK476, HB⟩ := hcut
  cases kq with
  | zero => exact absurd HA.out (by simp [attestorref02_New.j0])
  | succ kj2 =>
   have H := HA.out
   clear HA
   simp only [attestorref02_New.j0] at H
   by_cases c8 : x13_2 = true
   ·subst c8
    rw [if_pos rfl] at H
    simp only [Option.some.injEq, Prod.mk.injEq] at H
    obtain ⟨rfl, rfl, rfl⟩ := H
    have hcz9_0 := bc0_ BK476.out
    have hcz9_1 := bc1_ BK476.out
    have hfz9_0 := blk_frozen BK476.out 0
    have hfz9_1 := blk_frozen BK476.out 1
    go_wp2
    refine bodyPost_ret (results_ct rfl _ _ gb476 26 #[.slice none 0 0, .slice none 0 0] (0, 0) _ rfl kp_ Tryd.underlying26 rfl (by kernel_rfl)) rfl ?_
    exact ⟨_, _, eW_, by first | exact Kd.R_nil _ _ _ _ _ | exact Kd.N_nil _ _ _ _ _ | exact Kd.V_nil _ _ _ _ _ | exact Kd.Q_nil _ _ _ _ _ | exact Kd.S_nil _ _ _ _ _, by first | exact Kd.R_nil _ _ _ _ _ | exact Kd.N_nil _ _ _ _ _ | exact Kd.V_nil _ _ _ _ _ | exact Kd.Q_nil _ _ _ _ _ | exact Kd.S_nil _ _ _ _ _, sU_⟩
   replace c8 := Bool.eq_false_iff.mpr c8
   subst c8
   rw [if_neg (show ¬ (false = true) by decide)] at H
   by_cases c10 : (l1.length : Int) = 0
   ·rw [if_pos c10] at H
    have c10b0 := beq_iff_eq.mpr c10
    have c10b1 := bne_eq_false_iff_eq.mpr c10
    clear c10
    simp only [Option.some.injEq, Prod.mk.injEq] at H
    obtain ⟨rfl, rfl, rfl⟩ := H
    have hcz11_0 := bc0_ BK476.out
    have hcz11_1 := bc1_ BK476.out
    have hfz11_0 := blk_frozen BK476.out 0
    have hfz11_1 := blk_frozen BK476.out 1
    go_wp2
    refine bodyPost_ret (results_ct rfl _ _ gb476 26 #[.slice none 0 0, .slice none 0 0] (0, 0) _ rfl kp_ Tryd.underlying26 rfl (by kernel_rfl)) rfl ?_
    exact ⟨_, _, eW_, by first | exact Kd.R_nil _ _ _ _ _ | exact Kd.N_nil _ _ _ _ _ | exact Kd.V_nil _ _ _ _ _ | exact Kd.Q_nil _ _ _ _ _ | exact Kd.S_nil _ _ _ _ _, by first | exact Kd.R_nil _ _ _ _ _ | exact Kd.N_nil _ _ _ _ _ | exact Kd.V_nil _ _ _ _ _ | exact Kd.Q_nil _ _ _ _ _ | exact Kd.S_nil _ _ _ _ _, sU_⟩
   rw [if_neg c10] at H
   have c10b0 := beq_eq_false_iff_ne.mpr c10
   have c10b1 := bne_iff_ne.mpr c10
   have c10b2 : ¬ (l1 = []) := fun h_ => c10 (by rw [h_]; rfl)
   revert H
   refine bd3_ fun t479 t482 t485 A12 H => ?_
   try dsimp only at H
   simp only [Option.some.injEq, Prod.mk.injEq] at H
   obtain ⟨rfl, rfl, rfl⟩ := H
   go_wp2_with (first | ((with_reducible refine gate_callee (f := 104) rfl ?_); refine gl_ (some 21) Tryd.func104 #[.slice A0 l0.length c0, .slice A1 l1.length c1] ?_; (with_reducible refine (attestorref02_lowest.calls kj2 _ _ l0 _ _ l1 t479 t482 t485 _ ?side1 ?side2 ?side3 ?side4 A12.out).mono ?_); (case side1 => exact cU_ (C_below HR0.out HB.out)); (case side2 => exact HC0.out); (case side3 => exact cU_ (C_below HR1.out HB.out)); (case side4 => exact HC1.out); rintro e w13 ⟨v480, v483, rfl, ho0, ho1, hb⟩; refine ⟨_, rfl, ?_⟩; refine nx4_ (R_lower ho0 (below_size sU_)) (R_lower ho1 (below_size sU_)) (blk_below (kU_ BK476.out) hb) (below_step sU_ hb) ?_; clear BK476 HB; intro HO481 HO484 BK476 HB; clear hb ho0 ho1; obtain ⟨Ao14, co14, eo14⟩ := R_slice HO481.out; subst eo14; have hcz15_0 := bc0_ BK476.out; have hcz15_1 := bc1_ BK476.out; have hfz15_0 := blk_frozen BK476.out 0; have hfz15_1 := blk_frozen BK476.out 1; obtain ⟨Ao16, co16, eo16⟩ := R_slice HO484.out; subst eo16))
   refine bodyPost_ret (results_ct rfl _ _ gb476 26 #[.slice Ao14 t479.length co14, .slice Ao16 t482.length co16] (0, 0) _ rfl kp_ Tryd.underlying26 rfl (by kernel_rfl)) rfl ?_
   exact ⟨_, _, eW_, by (with_reducible repeat (first | apply Kd.R_alloc | apply Kd.R_drewN | apply R_drew)); exact R_mono (R_far (p := ⟨gb476, 1, none⟩) (R_far (p := ⟨gb476, 0, none⟩) (R_types HO481.out BK476.out (by decide)) (fun _ hk => hk.2) (.slice Ao14 t479.length co14)) (fun _ hk => hk.2) (.slice Ao16 t482.length co16)) (fun _ hk => hk.1), by (with_reducible repeat (first | apply Kd.R_alloc | apply Kd.R_drewN | apply R_drew)); exact R_mono (R_far (p := ⟨gb476, 1, none⟩) (R_far (p := ⟨gb476, 0, none⟩) (R_types HO484.out BK476.out (by decide)) (fun _ hk => hk.2) (.slice Ao14 t479.length co14)) (fun _ hk => hk.2) (.slice Ao16 t482.length co16)) (fun _ hk => hk.1), sU_⟩

def attestorref02_Nat.f (k : Nat) (a0 : Int) : Option (List Int) := (attestorref02_trim.f k (([(Int.tmod a0 4294967296) % 4294967296, (IntKind.u64.wrap (Int.tdiv a0 4294967296)) % 4294967296] : List Int))).bind fun t489 => (some t489)
set_option maxHeartbeats 8000000 in
set_option maxRecDepth 100000 in
theorem attestorref02_Nat.calls (k : Nat) (a0 : Int) (r : List Int) (w : World) (h : attestorref02_Nat.f k a0 = some r) :
  Calls Tryd.prog 101 #[.int .u64 a0] w fun e w' => ∃ v0_ : Value, e = .returned (v0_) ∧ Kd.R (Kd.int .u32) 115 w' w.heap.size (fun _ => True) v0_ r ∧ Below w.heap.size w w' := by
 have HB := ak (Below.refl w.heap.size w)
 have H := h
 clear h
 unfold attestorref02_Nat.f at H
 obtain ⟨y486, hy486⟩ : ∃ y_ : List Int, y_ = (([(Int.tmod a0 4294967296) % 4294967296, (IntKind.u64.wrap (Int.tdiv a0 4294967296)) % 4294967296] : List Int)) := ⟨_, rfl⟩
 replace H : ((attestorref02_trim.f k y486).bind fun t489 => (some t489)) = some r := by first | (rw [hy486]; with_reducible exact H) | (have H2_ := (Option.bind_some _ _).symm.trans H; rw [hy486]; with_reducible exact H2_) | (have H2_ := (Option.bind_some _ _).symm.trans H; with_reducible exact H2_) | with_reducible exact H | (rw [hy486]; exact H) | exact H
 have Ny486 := ak hy486
 clear hy486
 revert H
 refine bd_ fun t489 A2 H => ?_
 obtain rfl := Option.some.inj H
 go_enter Tryd.func101, Tryd.ntmps101
 go_wp2_with (first | ((with_reducible refine gate_dst (N := 9) rfl ?_); refine R_lit (Kd.int .u32) _ 115 ?hg (N := 9) ?hd (xs := ([(Int.tmod a0 4294967296) % 4294967296, (IntKind.u64.wrap (Int.tdiv a0 4294967296)) % 4294967296] : List Int)) (inner := [.int .u32 ((Int.tmod a0 4294967296) % 4294967296), .int .u32 ((IntKind.u64.wrap (Int.tdiv a0 4294967296)) % 4294967296)]) (ok := fun _ => True) (okp := fun _ => True) ?hr ?hp (fun _ hk => hk) trivial (Below.refl _ _) (Nat.le_refl _) (by simp) ?_; (case hd => rfl); (case hg => rfl); (case hr => first | (go_simp; done) | (go_simp; rfl)); (case hp => exact (Reps.one (show Kd.M (Kd.int .u32) _ _ _ ((Int.tmod a0 4294967296) % 4294967296) [.int .u32 ((Int.tmod a0 4294967296) % 4294967296)] from rfl) (Reps.one (show Kd.M (Kd.int .u32) _ _ _ ((IntKind.u64.wrap (Int.tdiv a0 4294967296)) % 4294967296) [.int .u32 ((IntKind.u64.wrap (Int.tdiv a0 4294967296)) % 4294967296)] from rfl) (Reps.none _ _)))); intro v487 w3 ho4 hb hg_ hnew_; clear hg_ hnew_; (first | rw [← Ny486.out] at ho4 | (simp only [Int.reduceToNat] at ho4; rw [← Ny486.out] at ho4)); refine nx2_ (R_lower ho4 (below_size (bU_ HB.out))) (below_step (bU_ HB.out) hb) ?_; clear HB; intro HO488 HB; clear hb ho4; obtain ⟨Ao5, co5, eo5⟩ := R_slice HO488.out; subst eo5) | ((with_reducible refine gate_callee (f := 126) rfl ?_); refine gl_ (some 10) Tryd.func126 #[.slice Ao5 y486.length co5] ?_; (with_reducible refine (attestorref02_trim.calls k _ _ y486 t489 _ ?side1 ?side2 A2.out).mono ?_); (case side1 => exact cU_ ((R_reads' HO488.out).2.2)); (case side2 => exact (R_reads' HO488.out).2.1); rintro e w6 ⟨v490, rfl, ho0, hb⟩; refine ⟨_, rfl, ?_⟩; refine nx3_ (R_elder' (rU_ HO488.out) (R_base ho0) hb) (R_lower (R_new' ho0 (R_lt (rU_ HO488.out))) (below_size (bU_ HB.out))) (below_step (bU_ HB.out) hb) ?_; clear HO488 HB; intro HO488 HO491 HB; clear hb ho0))
 go_ret
 exact ⟨_, eW_, R_mono (rU_ HO491.out) (fun _ hk => trivial), bU_ HB.out⟩

def attestorref02_Of.f (k : Nat) (a0 : Int) (a1 : Int) : Option (List Int × List Int × Int) := (attestorref02_Nat.f k a0).bind fun t493 => ((attestorref02_Nat.f k a1).bind fun t496 => ((attestorref02_New.f k t493 t496).bind fun bt499 => (some (bt499.1, bt499.2.1, bt499.2.2))))
set_option maxHeartbeats 8000000 in
set_option maxRecDepth 100000 in
theorem attestorref02_Of.calls (k : Nat) (a0 : Int) (a1 : Int) (r1 : List Int) (r2 : List Int) (r3 : Int) (w : World) (h : attestorref02_Of.f k a0 a1 = some (r1, r2, r3)) :
  Calls Tryd.prog 53 #[.int .u64 a0, .int .u64 a1] w fun e w' => ∃ v0_ v1_ : Value, e = .returned (.tuple #[.agg #[v0_, v1_], .int .i64 r3]) ∧ Kd.R (Kd.int .u32) 115 w' w.heap.size (fun k_ => some k_ ≠ (v1_ : Value).ownBlock) v0_ r1 ∧ Kd.R (Kd.int .u32) 115 w' w.heap.size (fun k_ => some k_ ≠ (v0_ : Value).ownBlock) v1_ r2 ∧ Below w.heap.size w w' := by
 have hu26 := Tryd.underlying26
 have HB := ak (Below.refl w.heap.size w)
 have H := h
 clear h
 unfold attestorref02_Of.f at H
 revert H
 refine bd_ fun t493 A3 H => ?_
 revert H
 refine bd_ fun t496 A4 H => ?_
 revert H
 refine bd3_ fun t499 t502 t505 A5 H => ?_
 try dsimp only at H
 simp only [Option.some.injEq, Prod.mk.injEq] at H
 obtain ⟨rfl, rfl, rfl⟩ := H
 go_enter Tryd.func53, Tryd.ntmps53
 go_wp2_with (first | ((with_reducible refine gate_dst (N := 4) rfl ?_); refine bx_ 4 26 #[.slice none 0 0, .slice none 0 0] ?_; intro gb492 hg w6 hbox hb; refine nx4_ (below_step (bU_ HB.out) hb) (hbox) ((hs_ hg (below_size (bU_ HB.out)))) ((hs_ hg (below_size (bU_ HB.out)))) ?_; clear HB; intro HB BK492 GW492 GE492; clear hb hbox hg) | ((with_reducible refine gate_callee (f := 101) rfl ?_); refine gl_ (some 7) Tryd.func101 #[.int .u64 a0] ?_; (with_reducible refine (attestorref02_Nat.calls k a0 t493 _ A3.out).mono ?_); rintro e w7 ⟨v494, rfl, ho0, hb⟩; refine ⟨_, rfl, ?_⟩; refine nx3_ (R_lower ho0 (below_size sU_)) (blk_below (kU_ BK492.out) hb) (below_step sU_ hb) ?_; clear BK492 HB; intro HO495 BK492 HB; clear hb ho0) | ((with_reducible refine gate_callee (f := 101) rfl ?_); refine gl_ (some 9) Tryd.func101 #[.int .u64 a1] ?_; (with_reducible refine (attestorref02_Nat.calls k a1 t496 _ A4.out).mono ?_); rintro e w8 ⟨v497, rfl, ho0, hb⟩; refine ⟨_, rfl, ?_⟩; refine nx4_ (R_elder' (rU_ HO495.out) (R_base ho0) hb) (R_lower (R_new' ho0 (R_lt (rU_ HO495.out))) (below_size sU_)) (blk_below (kU_ BK492.out) hb) (below_step sU_ hb) ?_; clear HO495 BK492 HB; intro HO495 HO498 BK492 HB; clear hb ho0; obtain ⟨Ao9, co9, eo9⟩ := R_slice HO495.out; subst eo9; obtain ⟨Ao10, co10, eo10⟩ := R_slice HO498.out; subst eo10) | ((with_reducible refine gate_callee (f := 100) rfl ?_); refine gl_ (some 10) Tryd.func100 #[.slice Ao9 t493.length co9, .slice Ao10 t496.length co10] ?_; (with_reducible refine (attestorref02_New.calls k _ _ t493 _ _ t496 t499 t502 t505 _ ?side1 ?side2 ?side3 ?side4 A5.out).mono ?_); (case side1 => exact cU_ ((R_reads' HO495.out).2.2)); (case side2 => exact (R_reads' HO495.out).2.1); (case side3 => exact cU_ ((R_reads' HO498.out).2.2)); (case side4 => exact (R_reads' HO498.out).2.1); rintro e w11 ⟨v500, v503, rfl, ho0, ho1, hb⟩; refine ⟨_, rfl, ?_⟩; refine nx6_ (R_mono (Kd.R_told (Kd.R_told (Kd.R_old (rU_ HO495.out) hb) (R_base ho0)) (R_base ho1)) (fun _ h_ => h_.1)) (R_mono (Kd.R_told (Kd.R_told (Kd.R_old (rU_ HO498.out) hb) (R_base ho0)) (R_base ho1)) (fun _ h_ => h_.1)) (R_lower (R_new' (R_new' ho0 (R_lt (rU_ HO495.out))) (R_lt (rU_ HO498.out))) (below_size sU_)) (R_lower (R_new' (R_new' ho1 (R_lt (rU_ HO495.out))) (R_lt (rU_ HO498.out))) (below_size sU_)) (blk_below (kU_ BK492.out) hb) (below_step sU_ hb) ?_; clear HO495 HO498 BK492 HB; intro HO495 HO498 HO501 HO504 BK492 HB; clear hb ho0 ho1; obtain ⟨Ao12, co12, eo12⟩ := R_slice HO501.out; subst eo12; have hcz13_0 := bc0_ BK492.out; have hcz13_1 := bc1_ BK492.out; have hfz13_0 := blk_frozen BK492.out 0; have hfz13_1 := blk_frozen BK492.out 1; obtain ⟨Ao14, co14, eo14⟩ := R_slice HO504.out; subst eo14))
 refine bodyPost_ret (results_ct rfl _ _ gb492 26 #[.slice Ao12 t499.length co12, .slice Ao14 t502.length co14] (0, 0) _ rfl kp_ Tryd.underlying26 rfl (by kernel_rfl)) rfl ?_
 exact ⟨_, _, eW_, by (with_reducible repeat (first | apply Kd.R_alloc | apply Kd.R_drewN | apply R_drew)); exact R_mono (R_far (p := ⟨gb492, 1, none⟩) (R_far (p := ⟨gb492, 0, none⟩) (R_types HO501.out BK492.out (by decide)) (fun _ hk => hk.2) (.slice Ao12 t499.length co12)) (fun _ hk => hk.2) (.slice Ao14 t502.length co14)) (fun _ hk => hk.1.1.1), by (with_reducible repeat (first | apply Kd.R_alloc | apply Kd.R_drewN | apply R_drew)); exact R_mono (R_far (p := ⟨gb492, 1, none⟩) (R_far (p := ⟨gb492, 0, none⟩) (R_types HO504.out BK492.out (by decide)) (fun _ hk => hk.2) (.slice Ao12 t499.length co12)) (fun _ hk => hk.2) (.slice Ao14 t502.length co14)) (fun _ hk => hk.1.1.1), sU_⟩

def attestorref02_SameNat.l0 : Nat → List Int → List Int → Int → Option (Bool)
 | 0, _, _, _ => none
 | k + 1, x0, x1, x5 => if x5 < (x0.length : Int) then (if 0 ≤ x5 then (if x5 < (x1.length : Int) then (if (rd x0 x5) = (rd x1 x5) then (attestorref02_SameNat.l0 k x0 x1 (wrap64 (x5 + 1))) else (some false)) else (none)) else (none)) else (some true)
def attestorref02_SameNat.f (k : Nat) (l0 : List Int) (l1 : List Int) : Option (Bool) := if (l0.length : Int) = (l1.length : Int) then (attestorref02_SameNat.l0 k l0 l1 0) else (some false)
set_option maxHeartbeats 8000000 in
set_option maxRecDepth 100000 in
theorem attestorref02_SameNat.calls (k : Nat) (A0 : Option Addr) (c0 : Nat) (l0 : List Int) (A1 : Option Addr) (c1 : Nat) (l1 : List Int) (r : Bool) (w : World) (hr0 : Kd.C (Kd.int .u32) w A0 l0.length l0) (hc0 : l0.length ≤ c0) (hr1 : Kd.C (Kd.int .u32) w A1 l1.length l1) (hc1 : l1.length ≤ c1) (h : attestorref02_SameNat.f k l0 l1 = some r) :
  Calls Tryd.prog 58 #[.slice A0 l0.length c0, .slice A1 l1.length c1] w fun e w' => e = .returned (.bool r) ∧ Drawn0 w w' := by
 have HR0 := ak hr0
 have HC0 := ak hc0
 clear hr0 hc0
 have HR1 := ak hr1
 have HC1 := ak hc1
 clear hr1 hc1
 have H : (if (l0.length : Int) = (l1.length : Int) then (attestorref02_SameNat.l0 k l0 l1 0) else (some false)) = some r := h
 clear h
 by_cases c3 : (l0.length : Int) = (l1.length : Int)
 ·rw [if_pos c3] at H
  have c3b0 := beq_iff_eq.mpr c3
  have c3b1 := bne_eq_false_iff_eq.mpr c3
  have c3b2 : (l0.length == l1.length) = true := by first | simpa using c3 | (simp at c3 ⊢; omega)
  clear c3
  have H' := ak H
  clear H
  go_enter Tryd.func58, Tryd.ntmps58
  go_wp2
  repeat (go_quiet (fail); try go_wp2)
  go_loopg [5] k (fun kq v5 w' => ∃ (x5_1 : Int), v5 = .int .i64 x5_1 ∧ Aside0 (attestorref02_SameNat.l0 kq l0 l1 x5_1 = some r) ∧ Aside0 (kq ≤ k) ∧ Drawn0 w w')
  case atStart => exact ⟨(0), gb_, H', ⟨Nat.le_refl _⟩, by repeat (first | exact Drawn0.refl _ | apply Drawn0.step)⟩
  case round =>
   clear H'
   (try clear c1); (try clear p2); (try clear c3); (try clear c3b0); (try clear c3b1); (try clear c3b2)
   obtain ⟨x5_1, rfl, HA, HK1, ⟨m1, rfl⟩⟩ := hrel
   cases gk with
   | zero => exact absurd HA.out (by simp [attestorref02_SameNat.l0])
   | succ k1 =>
    have H := HA.out
    clear HA
    simp only [attestorref02_SameNat.l0] at H
    by_cases c4 : x5_1 < (l0.length : Int)
    ·rw [if_pos c4] at H
     have c4b0 := decide_eq_true c4
     clear c4
     obtain ⟨c5, H⟩ : (0 ≤ x5_1) ∧ _ := it_ H
     have c5b0 := decide_eq_true c5
     clear c5
     obtain ⟨c6, H⟩ : (x5_1 < (l1.length : Int)) ∧ _ := it_ H
     have c6b0 := decide_eq_true c6
     clear c6
     by_cases c7 : (rd l0 x5_1) = (rd l1 x5_1)
     ·rw [if_pos c7] at H
      have c7b0 := beq_iff_eq.mpr c7
      have c7b1 := bne_eq_false_iff_eq.mpr c7
      clear c7
      have H' := ak H
      clear H
      have p506 : 0 ≤ (x5_1 : Int) := od_
      have q506 : x5_1 < (l0.length : Int) := od_
      obtain ⟨ad506, e506, hx506_0⟩ := Kd.at_int HR0.out x5_1 p506 q506
      cases e506
      replace p506 := eq_true p506
      replace q506 := eq_true q506
      have p507 : 0 ≤ (x5_1 : Int) := od_
      have q507 : x5_1 < (l1.length : Int) := od_
      obtain ⟨ad507, e507, hx507_0⟩ := Kd.at_int HR1.out x5_1 p507 q507
      cases e507
      replace p507 := eq_true p507
      replace q507 := eq_true q507
      go_wp2
      repeat (go_quiet (fail); try go_wp2)
      go_roundg k1
      case measure => have := HK1.out; omega
      case rel => exact ⟨(wrap64 (x5_1 + 1)), gb_, H', ⟨by have := HK1.out; omega⟩, by repeat (first | exact Drawn0.refl _ | apply Drawn0.step)⟩
     rw [if_neg c7] at H
     have c7b0 := beq_eq_false_iff_ne.mpr c7
     have c7b1 := bne_iff_ne.mpr c7
     obtain rfl := Option.some.inj H
     have p506 : 0 ≤ (x5_1 : Int) := od_
     have q506 : x5_1 < (l0.length : Int) := od_
     obtain ⟨ad506, e506, hx506_0⟩ := Kd.at_int HR0.out x5_1 p506 q506
     cases e506
     replace p506 := eq_true p506
     replace q506 := eq_true q506
     have p507 : 0 ≤ (x5_1 : Int) := od_
     have q507 : x5_1 < (l1.length : Int) := od_
     obtain ⟨ad507, e507, hx507_0⟩ := Kd.at_int HR1.out x5_1 p507 q507
     cases e507
     replace p507 := eq_true p507
     replace q507 := eq_true q507
     go_wp2
     repeat (go_quiet (fail); try go_wp2)
     go_ret
     exact ⟨by first | rfl | (simp; done) | (simp [*]; done), by repeat (first | exact Drawn0.refl _ | apply Drawn0.step)⟩
    rw [if_neg c4] at H
    have c4b0 := decide_eq_false c4
    clear c4
    obtain rfl := Option.some.inj H
    go_wp2
    repeat (go_quiet (fail); try go_wp2)
    go_ret
    exact ⟨by first | rfl | (simp; done) | (simp [*]; done), by repeat (first | exact Drawn0.refl _ | apply Drawn0.step)⟩
 rw [if_neg c3] at H
 have c3b0 := beq_eq_false_iff_ne.mpr c3
 have c3b1 := bne_iff_ne.mpr c3
 have c3b2 : (l0.length == l1.length) = false := by first | simpa using c3 | (simp at c3 ⊢; omega)
 obtain rfl := Option.some.inj H
 go_enter Tryd.func58, Tryd.ntmps58
 go_wp2
 repeat (go_quiet (fail); try go_wp2)
 go_ret
 exact ⟨by first | rfl | (simp; done) | (simp [*]; done), by repeat (first | exact Drawn0.refl _ | apply Drawn0.step)⟩

def attestorref02_Valid.f (k : Nat) (l0_0 : List Int) (l0_1 : List Int) : Option (Bool) := (attestorref02_ValidNat.f l0_0).bind fun t509 => (if t509 = true then ((attestorref02_ValidNat.f l0_1).bind fun t510 => (if t510 = true then (if (l0_1.length : Int) > 0 then ((attestorref02_gcd.f k l0_0 l0_1).bind fun t511 => ((attestorref02_SameNat.f k t511 (([1] : List Int))).bind fun t517 => (some t517))) else (some false)) else (some false))) else (some false))
set_option maxHeartbeats 8000000 in
set_option maxRecDepth 100000 in
theorem attestorref02_Valid.calls (k : Nat) (A0_0 : Option Addr) (c0_0 : Nat) (l0_0 : List Int) (A0_1 : Option Addr) (c0_1 : Nat) (l0_1 : List Int) (r : Bool) (w : World) (hr0_0 : Kd.C (Kd.int .u32) w A0_0 l0_0.length l0_0) (hc0_0 : l0_0.length ≤ c0_0) (hr0_1 : Kd.C (Kd.int .u32) w A0_1 l0_1.length l0_1) (hc0_1 : l0_1.length ≤ c0_1) (h : attestorref02_Valid.f k l0_0 l0_1 = some r) :
  Calls Tryd.prog 102 #[.agg #[.slice A0_0 l0_0.length c0_0, .slice A0_1 l0_1.length c0_1]] w fun e w' => e = .returned (.bool r) ∧ Below w.heap.size w w' := by
 have hu26 := Tryd.underlying26
 have HR0_0 := ak hr0_0
 have HC0_0 := ak hc0_0
 clear hr0_0 hc0_0
 have HR0_1 := ak hr0_1
 have HC0_1 := ak hc0_1
 clear hr0_1 hc0_1
 have HB := ak (Below.refl w.heap.size w)
 have H := h
 clear h
 unfold attestorref02_Valid.f at H
 revert H
 refine bd_ fun t509 A2 H => ?_
 by_cases c3 : t509 = true
 ·subst c3
  rw [if_pos rfl] at H
  revert H
  refine bd_ fun t510 A4 H => ?_
  by_cases c5 : t510 = true
  ·subst c5
   rw [if_pos rfl] at H
   by_cases c6 : (l0_1.length : Int) > 0
   ·rw [if_pos c6] at H
    have c6b0 : decide (0 < (l0_1.length : Int)) = true := decide_eq_true c6
    have c6b1 : decide (0 < l0_1.length) = true := decide_eq_true (by omega)
    clear c6
    revert H
    refine bd_ fun t511 A7 H => ?_
    obtain ⟨y514, hy514⟩ : ∃ y_ : List Int, y_ = (([1] : List Int)) := ⟨_, rfl⟩
    replace H : ((attestorref02_SameNat.f k t511 y514).bind fun t517 => (some t517)) = some r := by first | (rw [hy514]; with_reducible exact H) | (have H2_ := (Option.bind_some _ _).symm.trans H; rw [hy514]; with_reducible exact H2_) | (have H2_ := (Option.bind_some _ _).symm.trans H; with_reducible exact H2_) | with_reducible exact H | (rw [hy514]; exact H) | exact H
    have Ny514 := ak hy514
    clear hy514
    revert H
    refine bd_ fun t517 A8 H => ?_
    obtain rfl := Option.some.inj H
    go_enter Tryd.func102, Tryd.ntmps102
    go_wp2_with (first | ((with_reducible refine gate_dst (N := 1) rfl ?_); (try (refine gate_guard (by rfl) ?_; dsimp only)); refine bx_ 1 26 #[.slice A0_0 l0_0.length c0_0, .slice A0_1 l0_1.length c0_1] ?_; intro gb508 hg w9 hbox hb; refine nx4_ (below_step (bU_ HB.out) hb) (hbox) ((hs_ hg (below_size (bU_ HB.out)))) ((hs_ hg (below_size (bU_ HB.out)))) ?_; clear HB; intro HB BK508 GW508 GE508; clear hb hbox hg; have hcz10_0 := bc0_ BK508.out; have hcz10_1 := bc1_ BK508.out; have hfz10_0 := blk_frozen BK508.out 0; have hfz10_1 := blk_frozen BK508.out 1) | ((with_reducible refine gate_callee (f := 125) rfl ?_); refine gl_ (some 5) Tryd.func125 #[.slice A0_0 l0_0.length c0_0] ?_; (with_reducible refine (attestorref02_ValidNat.calls _ _ l0_0 true _ ?side1 ?side2 A2.out).mono ?_); (case side1 => exact cU_ (C_below HR0_0.out HB.out)); (case side2 => exact HC0_0.out); rintro e w' ⟨rfl, ⟨nd, rfl⟩⟩; refine ⟨_, rfl, ?_⟩) | (go_at_call 125; (with_reducible refine (attestorref02_ValidNat.calls _ _ l0_1 true _ ?side1 ?side2 A4.out).mono ?_); (case side1 => repeat (first | exact (C_below HR0_1.out sU_) | (with_reducible refine Kd.C_alloc ?_ _) | (with_reducible refine Kd.C_drewN ?_ _) | (with_reducible refine Kd.C_drew ?_))); (case side2 => exact HC0_1.out); rintro e w' ⟨rfl, ⟨nd, rfl⟩⟩) | (go_at_call 127; (with_reducible refine (attestorref02_gcd.calls k (fun k_ => k_ < w.heap.size) _ _ l0_0 (fun k_ => k_ < w.heap.size) _ _ l0_1 t511 _ ?side1 ?side2 A7.out).mono ?_); (case side1 => exact V_mk HC0_0.out (F_below (C_F (heap_int .u32) HR0_0.out) sU_)); (case side2 => exact V_mk HC0_1.out (F_below (C_F (heap_int .u32) HR0_1.out) sU_)); rintro e w11 ⟨v512, rfl, ho0, hb⟩; refine nx3_ (R_lower (R_mono (ok' := fun k_ => True) ho0 (fun _ hk_ => trivial)) (below_size sU_)) (blk_below (kU_ BK508.out) hb) (below_step sU_ hb) ?_; clear BK508 HB; intro HO513 BK508 HB; clear hb ho0) | ((with_reducible refine gate_dst (N := 23) rfl ?_); (try (refine gate_guard (by rfl) ?_; dsimp only)); refine R_lit (Kd.int .u32) _ 115 ?hg (N := 23) ?hd (xs := ([1] : List Int)) (inner := [.int .u32 1]) (ok := fun _ => True) (okp := fun _ => True) ?hr ?hp (fun _ hk => hk) trivial (Below.refl _ _) (Nat.le_refl _) (by simp) ?_; (case hd => rfl); (case hg => rfl); (case hr => first | (go_simp; done) | (go_simp; rfl)); (case hp => exact (Reps.one (show Kd.M (Kd.int .u32) _ _ _ 1 [.int .u32 1] from rfl) (Reps.none _ _))); intro v515 w12 ho13 hb hg_ hnew_; clear hg_ hnew_; (first | rw [← Ny514.out] at ho13 | (simp only [Int.reduceToNat] at ho13; rw [← Ny514.out] at ho13)); refine nx4_ (R_elder' (rU_ HO513.out) (R_base ho13) hb) (R_lower (R_new' ho13 (R_lt (rU_ HO513.out))) (below_size sU_)) (blk_below (kU_ BK508.out) hb) (below_step sU_ hb) ?_; clear HO513 BK508 HB; intro HO513 HO516 BK508 HB; clear hb ho13; obtain ⟨Ao14, co14, eo14⟩ := R_slice HO513.out; subst eo14; obtain ⟨Ao15, co15, eo15⟩ := R_slice HO516.out; subst eo15) | (go_at_call 58; (with_reducible refine (attestorref02_SameNat.calls k _ _ t511 _ _ y514 t517 _ ?side1 ?side2 ?side3 ?side4 A8.out).mono ?_); (case side1 => exact cU_ ((R_reads' HO513.out).2.2)); (case side2 => exact (R_reads' HO513.out).2.1); (case side3 => exact cU_ ((R_reads' HO516.out).2.2)); (case side4 => exact (R_reads' HO516.out).2.1); rintro e w' ⟨rfl, ⟨nd, rfl⟩⟩))
    go_ret
    exact ⟨eW_, sU_⟩
   rw [if_neg c6] at H
   have c6b0 : decide (0 < (l0_1.length : Int)) = false := decide_eq_false c6
   have c6b1 : decide (0 < l0_1.length) = false := decide_eq_false (by omega)
   clear c6
   obtain rfl := Option.some.inj H
   go_enter Tryd.func102, Tryd.ntmps102
   go_wp2_with (first | ((with_reducible refine gate_dst (N := 1) rfl ?_); (try (refine gate_guard (by rfl) ?_; dsimp only)); refine bx_ 1 26 #[.slice A0_0 l0_0.length c0_0, .slice A0_1 l0_1.length c0_1] ?_; intro gb508 hg w16 hbox hb; refine nx4_ (below_step (bU_ HB.out) hb) (hbox) ((hs_ hg (below_size (bU_ HB.out)))) ((hs_ hg (below_size (bU_ HB.out)))) ?_; clear HB; intro HB BK508 GW508 GE508; clear hb hbox hg; have hcz17_0 := bc0_ BK508.out; have hcz17_1 := bc1_ BK508.out; have hfz17_0 := blk_frozen BK508.out 0; have hfz17_1 := blk_frozen BK508.out 1) | ((with_reducible refine gate_callee (f := 125) rfl ?_); refine gl_ (some 5) Tryd.func125 #[.slice A0_0 l0_0.length c0_0] ?_; (with_reducible refine (attestorref02_ValidNat.calls _ _ l0_0 true _ ?side1 ?side2 A2.out).mono ?_); (case side1 => exact cU_ (C_below HR0_0.out HB.out)); (case side2 => exact HC0_0.out); rintro e w' ⟨rfl, ⟨nd, rfl⟩⟩; refine ⟨_, rfl, ?_⟩) | (go_at_call 125; (with_reducible refine (attestorref02_ValidNat.calls _ _ l0_1 true _ ?side1 ?side2 A4.out).mono ?_); (case side1 => repeat (first | exact (C_below HR0_1.out sU_) | (with_reducible refine Kd.C_alloc ?_ _) | (with_reducible refine Kd.C_drewN ?_ _) | (with_reducible refine Kd.C_drew ?_))); (case side2 => exact HC0_1.out); rintro e w' ⟨rfl, ⟨nd, rfl⟩⟩))
   go_ret
   exact ⟨eW_, sU_⟩
  replace c5 := Bool.eq_false_iff.mpr c5
  subst c5
  rw [if_neg (show ¬ (false = true) by decide)] at H
  obtain rfl := Option.some.inj H
  go_enter Tryd.func102, Tryd.ntmps102
  go_wp2_with (first | ((with_reducible refine gate_dst (N := 1) rfl ?_); (try (refine gate_guard (by rfl) ?_; dsimp only)); refine bx_ 1 26 #[.slice A0_0 l0_0.length c0_0, .slice A0_1 l0_1.length c0_1] ?_; intro gb508 hg w18 hbox hb; refine nx4_ (below_step (bU_ HB.out) hb) (hbox) ((hs_ hg (below_size (bU_ HB.out)))) ((hs_ hg (below_size (bU_ HB.out)))) ?_; clear HB; intro HB BK508 GW508 GE508; clear hb hbox hg; have hcz19_0 := bc0_ BK508.out; have hcz19_1 := bc1_ BK508.out; have hfz19_0 := blk_frozen BK508.out 0; have hfz19_1 := blk_frozen BK508.out 1) | ((with_reducible refine gate_callee (f := 125) rfl ?_); refine gl_ (some 5) Tryd.func125 #[.slice A0_0 l0_0.length c0_0] ?_; (with_reducible refine (attestorref02_ValidNat.calls _ _ l0_0 true _ ?side1 ?side2 A2.out).mono ?_); (case side1 => exact cU_ (C_below HR0_0.out HB.out)); (case side2 => exact HC0_0.out); rintro e w' ⟨rfl, ⟨nd, rfl⟩⟩; refine ⟨_, rfl, ?_⟩) | (go_at_call 125; (with_reducible refine (attestorref02_ValidNat.calls _ _ l0_1 false _ ?side1 ?side2 A4.out).mono ?_); (case side1 => repeat (first | exact (C_below HR0_1.out sU_) | (with_reducible refine Kd.C_alloc ?_ _) | (with_reducible refine Kd.C_drewN ?_ _) | (with_reducible refine Kd.C_drew ?_))); (case side2 => exact HC0_1.out); rintro e w' ⟨rfl, ⟨nd, rfl⟩⟩))
  go_ret
  exact ⟨eW_, sU_⟩
 replace c3 := Bool.eq_false_iff.mpr c3
 subst c3
 rw [if_neg (show ¬ (false = true) by decide)] at H
 obtain rfl := Option.some.inj H
 go_enter Tryd.func102, Tryd.ntmps102
 go_wp2_with (first | ((with_reducible refine gate_dst (N := 1) rfl ?_); (try (refine gate_guard (by rfl) ?_; dsimp only)); refine bx_ 1 26 #[.slice A0_0 l0_0.length c0_0, .slice A0_1 l0_1.length c0_1] ?_; intro gb508 hg w20 hbox hb; refine nx4_ (below_step (bU_ HB.out) hb) (hbox) ((hs_ hg (below_size (bU_ HB.out)))) ((hs_ hg (below_size (bU_ HB.out)))) ?_; clear HB; intro HB BK508 GW508 GE508; clear hb hbox hg; have hcz21_0 := bc0_ BK508.out; have hcz21_1 := bc1_ BK508.out; have hfz21_0 := blk_frozen BK508.out 0; have hfz21_1 := blk_frozen BK508.out 1) | ((with_reducible refine gate_callee (f := 125) rfl ?_); refine gl_ (some 5) Tryd.func125 #[.slice A0_0 l0_0.length c0_0] ?_; (with_reducible refine (attestorref02_ValidNat.calls _ _ l0_0 false _ ?side1 ?side2 A2.out).mono ?_); (case side1 => exact cU_ (C_below HR0_0.out HB.out)); (case side2 => exact HC0_0.out); rintro e w' ⟨rfl, ⟨nd, rfl⟩⟩; refine ⟨_, rfl, ?_⟩))
 go_ret
 exact ⟨eW_, sU_⟩

end Go.Proofs.YtbjeemlbjkmhiaaDoor.Q

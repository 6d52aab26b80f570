import Derived.Test.YtjjjoepnlhpjdaaDoorQ0
namespace Go.Proofs.YtjjjoepnlhpjdaaDoor.Q
open Go.RowKit Go.Proofs.YtjjjoepnlhpjdaaDoorW.PrintWords Go.Proofs.YtjjjoepnlhpjdaaDoorW.PrintLast Go.Proofs.YtjjjoepnlhpjdaaDoorW.PrintMore
open Kd (R_mono R_lower R_new' R_newM R_elder' R_base R_lt R_slice R_reads' R_V R_lit R_make V_mono V_elder' V_slice V_reads' C_below V_drew C_of_reads R_at)
attribute [local go_sem] max2_int min2_int max_two min_two max_three min_three max_four min_four   -- for this text's walks alone
set_option linter.unusedVariables false
set_option linter.unusedSimpArgs false

def attestorref02_trim.l0 : Nat → List Int → Int → Option (List Int)
 | 0, _, _ => none
 | k + 1, x0, x3 => if x3 > 0 then (if 0 ≤ (wrap64 (x3 - 1)) then (if (wrap64 (x3 - 1)) < (x0.length : Int) then (if (rd x0 (wrap64 (x3 - 1))) = 0 then (attestorref02_trim.l0 k x0 (wrap64 (x3 - 1))) else (if 0 ≤ x3 then (if x3 ≤ (x0.length : Int) then (if ([] : List Int).length + (x0.take (x3 : Int).toNat).length < 35184372088832 then (some (([] : List Int) ++ (x0.take (x3 : Int).toNat))) else (none)) else (none)) else (none))) else (none)) else (none)) else (if 0 ≤ x3 then (if x3 ≤ (x0.length : Int) then (if ([] : List Int).length + (x0.take (x3 : Int).toNat).length < 35184372088832 then (some (([] : List Int) ++ (x0.take (x3 : Int).toNat))) else (none)) else (none)) else (none))
def attestorref02_trim.f (k : Nat) (l0 : List Int) : Option (List Int) := attestorref02_trim.l0 k l0 (l0.length : Int)
set_option maxHeartbeats 8000000 in
set_option maxRecDepth 100000 in
theorem attestorref02_trim.calls (k : Nat) (A0 : Option Addr) (c0 : Nat) (l0 : List Int) (r : List Int) (w : World) (hr0 : Kd.C (Kd.int .u32) w A0 l0.length l0) (hc0 : l0.length ≤ c0) (h : attestorref02_trim.f k l0 = some r) :
  Calls Tryd.prog 69 #[.slice A0 l0.length c0] w fun e w' => ∃ v0_ : Value, e = .returned (v0_) ∧ Kd.R (Kd.int .u32) 44 w' w.heap.size (fun _ => True) v0_ r ∧ Below w.heap.size w w' := by
 have HR0 := ak hr0
 have HC0 := ak hc0
 clear hr0 hc0
 have HB := ak (Below.refl w.heap.size w)
 have H : (attestorref02_trim.l0 k l0 (l0.length : Int)) = some r := h
 clear h
 have H' := ak H
 clear H
 go_enter Tryd.func69, Tryd.ntmps69
 go_wp2
 go_loopg [3] k (fun kq v3 w' => ∃ (x3_1 : Int), v3 = .int .i64 x3_1 ∧ Aside0 (attestorref02_trim.l0 kq l0 x3_1 = some r) ∧ Aside0 (kq ≤ k) ∧ Aside0 (Below w.heap.size w w'))
 case atStart => exact ⟨((l0.length : Int)), gb_, H', ⟨Nat.le_refl _⟩, ⟨bU_ HB.out⟩⟩
 case round =>
  clear H'
  obtain ⟨x3_1, rfl, HA, HK1, HB⟩ := hrel
  cases gk with
  | zero => exact absurd HA.out (by simp [attestorref02_trim.l0])
  | succ k1 =>
   have H := HA.out
   clear HA
   simp only [attestorref02_trim.l0] at H
   by_cases c2 : x3_1 > 0
   ·rw [if_pos c2] at H
    have c2b0 : decide (0 < x3_1) = true := decide_eq_true c2
    clear c2
    obtain ⟨ji3, hji3⟩ : ∃ j_ : Int, (wrap64 (x3_1 - 1)) = j_ := ⟨_, rfl⟩
    first | rw [hji3] at H | simp only [hji3] at H
    have hji3w : (IntKind.i64.wrap (x3_1 - 1)) = ji3 := (i64_w _).trans hji3
    obtain ⟨c4, H⟩ : (0 ≤ (ji3)) ∧ _ := it_ H
    have c4b0 := decide_eq_true c4
    clear c4
    obtain ⟨c5, H⟩ : ((ji3) < (l0.length : Int)) ∧ _ := it_ H
    have c5b0 := decide_eq_true c5
    clear c5
    by_cases c6 : (rd l0 (ji3)) = 0
    ·rw [if_pos c6] at H
     have c6b0 := beq_iff_eq.mpr c6
     have c6b1 := bne_eq_false_iff_eq.mpr c6
     clear c6
     have H' := ak H
     clear H
     have p957 : 0 ≤ ((ji3) : Int) := od_
     have q957 : (ji3) < (l0.length : Int) := od_
     obtain ⟨ad957, e957, hx957_0⟩ := Kd.at_int HR0.out (ji3) p957 q957
     cases e957
     replace hx957_0 := (HB.out.cell (World.block_lt_of_cell? w _ hx957_0)).trans hx957_0
     replace p957 := eq_true p957
     replace q957 := eq_true q957
     go_wp2
     go_roundg k1
     case measure => have := HK1.out; omega
     case rel => exact ⟨(ji3), (by first | rfl | (simp; done) | (simp only [← hji3] <;> (first | rfl | simp)) | (simp [*]; done)), H', ⟨by have := HK1.out; omega⟩, ⟨bU_ HB.out⟩⟩
    ·rw [if_neg c6] at H
     have c6b0 := beq_eq_false_iff_ne.mpr c6
     have c6b1 := bne_iff_ne.mpr c6
     obtain ⟨c7, H⟩ : (0 ≤ x3_1) ∧ _ := it_ H
     have c7b0 := eq_true c7
     have c7b1 := decide_eq_true c7
     clear c7
     obtain ⟨c8, H⟩ : (x3_1 ≤ (l0.length : Int)) ∧ _ := it_ H
     have c8b0 := eq_true c8
     have c8b1 := decide_eq_true c8
     clear c8
     obtain ⟨c9, H⟩ : (([] : List Int).length + (l0.take (x3_1 : Int).toNat).length < 35184372088832) ∧ _ := it_ H
     have LMc9 := ak c9
     clear c9
     obtain ⟨y959, hy959⟩ : ∃ y_ : List Int, y_ = (([] : List Int) ++ (l0.take (x3_1 : Int).toNat)) := ⟨_, rfl⟩
     first | rw [Option.bind_some, ← hy959] at H | rw [← hy959] at H
     have Ny959 := ak hy959
     clear hy959
     obtain rfl := Option.some.inj H
     have p957 : 0 ≤ ((ji3) : Int) := od_
     have q957 : (ji3) < (l0.length : Int) := od_
     obtain ⟨ad957, e957, hx957_0⟩ := Kd.at_int HR0.out (ji3) p957 q957
     cases e957
     replace hx957_0 := (HB.out.cell (World.block_lt_of_cell? w _ hx957_0)).trans hx957_0
     replace p957 := eq_true p957
     replace q957 := eq_true q957
     obtain ⟨i010, hi010, _, hsz10, _⟩ := info_parts info44
     obtain ⟨hcut10, hA10, hC10⟩ := print_take_of (P := Tryd.prog) (Value.int .u32) 0 23 44 .i64 Tryd.underlying23 hi010 hsz10 (some ad957) c0 l0 x3_1 od_ od_ HC0.out
     have HR958 := ak (C_of_reads (h1 := fun _ => rfl) (hA10 _ (Kd.reads_of_C HR0.out)))
     have HC958 := ak hC10
     clear hA10 hC10 hi010 hsz10
     go_wp2_with (first | ((with_reducible refine gate_builtin (b := .append) (xs := #[.tmp 19, .tmp 22]) rfl ?_); at_builtin; refine R_append_rows2 (Kd.int .u32) (w0 := w) w.heap.size rfl (.tmp 19) (.tmp 22) 24 23 44 44 (.int .u32 0) 4 rfl Tryd.underlying24 Tryd.underlying23 info44 rfl (by decide) (by omega) (.slice none 0 0) ([] : List Int) (l0.take (x3_1 : Int).toNat) _ _ _ (fun _ => True) (fun _ => False) rfl rfl ?aO ?aR (fun _ _ h => h) (fun _ h => h.elim) ?aF ?aB ?aS ?aL ?_; (case aR => first | (refine lenEq_ (show (l0.take (x3_1 : Int).toNat).length = x3_1.toNat from (by rw [List.length_take]; have h_ : (x3_1 : Int) ≤ (l0.length : Int) := od_; omega)) ?_; exact cU_ (C_below HR958.out HB.out)) | (exact cU_ (C_below HR958.out HB.out))); (case aB => exact (bU_ HB.out)); (case aF => exact (fun _ _ => trivial)); (case aO => exact ((Kd.R_nil _ _ _ _ (fun _ => True)))); (case aS => exact (below_size (bU_ HB.out))); (case aL => have := LMc9.out; have hlx_ := (show (l0.take (x3_1 : Int).toNat).length = x3_1.toNat from (by rw [List.length_take]; have h_ : (x3_1 : Int) ≤ (l0.length : Int) := od_; omega)); omega); intro v960 w11 ho hb hg hat; rw [← Ny959.out] at ho; refine nx2_ (hb) (ho) ?_; clear HB; intro HB HO961; clear ho hb hg hat))
     go_ret
     exact ⟨_, by first | rfl | (simp [errW_none, errW_some] <;> rfl) | (simp only [← hji3]; first | rfl | (simp [errW_none, errW_some] <;> rfl)) | (simp [*, errW_none, errW_some] <;> rfl), rU_ HO961.out, bU_ HB.out⟩
   ·rw [if_neg c2] at H
    have c2b0 : decide (0 < x3_1) = false := decide_eq_false c2
    clear c2
    obtain ⟨c12, H⟩ : (0 ≤ x3_1) ∧ _ := it_ H
    have c12b0 := eq_true c12
    have c12b1 := decide_eq_true c12
    clear c12
    obtain ⟨c13, H⟩ : (x3_1 ≤ (l0.length : Int)) ∧ _ := it_ H
    have c13b0 := eq_true c13
    have c13b1 := decide_eq_true c13
    clear c13
    obtain ⟨c14, H⟩ : (([] : List Int).length + (l0.take (x3_1 : Int).toNat).length < 35184372088832) ∧ _ := it_ H
    have LMc14 := ak c14
    clear c14
    obtain ⟨y963, hy963⟩ : ∃ y_ : List Int, y_ = (([] : List Int) ++ (l0.take (x3_1 : Int).toNat)) := ⟨_, rfl⟩
    first | rw [Option.bind_some, ← hy963] at H | rw [← hy963] at H
    have Ny963 := ak hy963
    clear hy963
    obtain rfl := Option.some.inj H
    obtain ⟨i015, hi015, _, hsz15, _⟩ := info_parts info44
    obtain ⟨hcut15, hA15, hC15⟩ := print_take_of (P := Tryd.prog) (Value.int .u32) 0 23 44 .i64 Tryd.underlying23 hi015 hsz15 A0 c0 l0 x3_1 od_ od_ HC0.out
    have HR962 := ak (C_of_reads (h1 := fun _ => rfl) (hA15 _ (Kd.reads_of_C HR0.out)))
    have HC962 := ak hC15
    clear hA15 hC15 hi015 hsz15
    go_wp2_with (first | ((with_reducible refine gate_builtin (b := .append) (xs := #[.tmp 19, .tmp 22]) rfl ?_); at_builtin; refine R_append_rows2 (Kd.int .u32) (w0 := w) w.heap.size rfl (.tmp 19) (.tmp 22) 24 23 44 44 (.int .u32 0) 4 rfl Tryd.underlying24 Tryd.underlying23 info44 rfl (by decide) (by omega) (.slice none 0 0) ([] : List Int) (l0.take (x3_1 : Int).toNat) _ _ _ (fun _ => True) (fun _ => False) rfl rfl ?aO ?aR (fun _ _ h => h) (fun _ h => h.elim) ?aF ?aB ?aS ?aL ?_; (case aR => first | (refine lenEq_ (show (l0.take (x3_1 : Int).toNat).length = x3_1.toNat from (by rw [List.length_take]; have h_ : (x3_1 : Int) ≤ (l0.length : Int) := od_; omega)) ?_; exact cU_ (C_below HR962.out HB.out)) | (exact cU_ (C_below HR962.out HB.out))); (case aB => exact (bU_ HB.out)); (case aF => exact (fun _ _ => trivial)); (case aO => exact ((Kd.R_nil _ _ _ _ (fun _ => True)))); (case aS => exact (below_size (bU_ HB.out))); (case aL => have := LMc14.out; have hlx_ := (show (l0.take (x3_1 : Int).toNat).length = x3_1.toNat from (by rw [List.length_take]; have h_ : (x3_1 : Int) ≤ (l0.length : Int) := od_; omega)); omega); intro v964 w16 ho hb hg hat; rw [← Ny963.out] at ho; refine nx2_ (hb) (ho) ?_; clear HB; intro HB HO965; clear ho hb hg hat))
    go_ret
    exact ⟨_, eW_, rU_ HO965.out, bU_ HB.out⟩

def attestorref02_limb.f (l0 : List Int) (a1 : Int) : Option (Int) := if a1 < (l0.length : Int) then (if 0 ≤ a1 then (some (IntKind.u64.wrap (rd l0 a1))) else (none)) else (some 0)
set_option maxHeartbeats 8000000 in
set_option maxRecDepth 100000 in
theorem attestorref02_limb.calls (A0 : Option Addr) (c0 : Nat) (l0 : List Int) (a1 : Int) (r : Int) (w : World) (hr0 : Kd.C (Kd.int .u32) w A0 l0.length l0) (hc0 : l0.length ≤ c0) (h : attestorref02_limb.f l0 a1 = some r) :
  Calls Tryd.prog 85 #[.slice A0 l0.length c0, .int .i64 a1] w fun e w' => e = .returned (.int .u64 r) ∧ Drawn0 w w' := by
 have HR0 := ak hr0
 have HC0 := ak hc0
 clear hr0 hc0
 have H := h
 clear h
 unfold attestorref02_limb.f at H
 by_cases c3 : a1 < (l0.length : Int)
 ·rw [if_pos c3] at H
  have c3b0 := decide_eq_true c3
  clear c3
  obtain ⟨c4, H⟩ : (0 ≤ a1) ∧ _ := it_ H
  have c4b0 := decide_eq_true c4
  clear c4
  obtain rfl := Option.some.inj H
  have p972 : 0 ≤ (a1 : Int) := od_
  have q972 : a1 < (l0.length : Int) := od_
  obtain ⟨ad972, e972, hx972_0⟩ := Kd.at_int HR0.out a1 p972 q972
  cases e972
  replace p972 := eq_true p972
  replace q972 := eq_true q972
  go_enter Tryd.func85, Tryd.ntmps85
  go_wp2
  go_ret
  exact ⟨by first | rfl | (simp; done) | (simp [*]; done), by repeat (first | exact Drawn0.refl _ | apply Drawn0.step)⟩
 ·rw [if_neg c3] at H
  have c3b0 := decide_eq_false c3
  clear c3
  obtain rfl := Option.some.inj H
  go_enter Tryd.func85, Tryd.ntmps85
  go_wp2
  go_ret
  exact ⟨by first | rfl | (simp; done) | (simp [*]; done), by repeat (first | exact Drawn0.refl _ | apply Drawn0.step)⟩

def attestorref02_sum.l0 : Nat → List Int → List Int → List Int → Int → Int → Option (List Int)
 | 0, _, _, _, _, _ => none
 | k + 1, x0, x1, x5, x6, x7 => if x7 < (wrap64 ((mx (x0.length : Int) (x1.length : Int)) + 1)) then ((attestorref02_limb.f x0 x7).bind fun t973 => ((attestorref02_limb.f x1 x7).bind fun t974 => (if x5.length < 35184372088832 then (attestorref02_sum.l0 k x0 x1 (x5 ++ [(Int.tmod (IntKind.u64.wrap ((IntKind.u64.wrap (t973 + t974)) + x6)) 4294967296) % 4294967296]) (IntKind.u64.wrap (Int.tdiv (IntKind.u64.wrap ((IntKind.u64.wrap (t973 + t974)) + x6)) 4294967296)) (wrap64 (x7 + 1))) else (none)))) else ((attestorref02_trim.f k x5).bind fun t978 => (some t978))
def attestorref02_sum.f (k : Nat) (l0 : List Int) (l1 : List Int) : Option (List Int) := attestorref02_sum.l0 k l0 l1 ([] : List Int) 0 0
set_option maxHeartbeats 8000000 in
set_option maxRecDepth 100000 in
theorem attestorref02_sum.calls (k : Nat) (A0 : Option Addr) (c0 : Nat) (l0 : List Int) (A1 : Option Addr) (c1 : Nat) (l1 : List Int) (r : List Int) (w : World) (hr0 : Kd.C (Kd.int .u32) w A0 l0.length l0) (hc0 : l0.length ≤ c0) (hr1 : Kd.C (Kd.int .u32) w A1 l1.length l1) (hc1 : l1.length ≤ c1) (h : attestorref02_sum.f k l0 l1 = some r) :
  Calls Tryd.prog 62 #[.slice A0 l0.length c0, .slice A1 l1.length c1] w fun e w' => ∃ v0_ : Value, e = .returned (v0_) ∧ Kd.R (Kd.int .u32) 44 w' w.heap.size (fun _ => True) v0_ r ∧ Below w.heap.size w w' := by
 have HR0 := ak hr0
 have HC0 := ak hc0
 clear hr0 hc0
 have HR1 := ak hr1
 have HC1 := ak hc1
 clear hr1 hc1
 have HB := ak (Below.refl w.heap.size w)
 have H : (attestorref02_sum.l0 k l0 l1 ([] : List Int) 0 0) = some r := h
 clear h
 have H' := ak H
 clear H
 go_enter Tryd.func62, Tryd.ntmps62
 go_wp2
 go_loopg [5, 6, 7] k (fun kq v5 v6 v7 w' => ∃ (x5_1 : List Int) (x6_1 : Int) (x7_1 : Int), v6 = .int .u64 x6_1 ∧ v7 = .int .i64 x7_1 ∧ Aside0 (attestorref02_sum.l0 kq l0 l1 x5_1 x6_1 x7_1 = some r) ∧ Aside0 (kq ≤ k) ∧ Aside0 (Kd.R (Kd.int .u32) 44 w' w.heap.size (fun _ => True) v5 x5_1) ∧ Aside0 (Below w.heap.size w w'))
 case atStart => exact ⟨(([] : List Int)), (0), (0), gb_, gb_, H', ⟨Nat.le_refl _⟩, ⟨by first | exact Kd.R_nil _ _ _ _ _ | exact Kd.N_nil _ _ _ _ _ | exact Kd.V_nil _ _ _ _ _ | exact Kd.Q_nil _ _ _ _ _ | exact Kd.S_nil _ _ _ _ _⟩, ⟨bU_ HB.out⟩⟩
 case round =>
  clear H'
  (try clear c1); (try clear p2)
  obtain ⟨x5_1, x6_1, x7_1, rfl, rfl, HA, HK1, HO_5, HB⟩ := hrel
  cases gk with
  | zero => exact absurd HA.out (by simp [attestorref02_sum.l0])
  | succ k1 =>
   have H := HA.out
   clear HA
   simp only [attestorref02_sum.l0] at H
   obtain ⟨ji3, hji3⟩ : ∃ j_ : Int, (mx (l0.length : Int) (l1.length : Int)) = j_ := ⟨_, rfl⟩
   first | rw [hji3] at H | simp only [hji3] at H
   have hji3_ : (if (l0.length : Int) < (l1.length : Int) then (l1.length : Int) else (l0.length : Int)) = ji3 := hji3
   have hji3n : (if l0.length < l1.length then (l1.length : Int) else (l0.length : Int)) = ji3 := by rw [← hji3_]; by_cases c_ : l0.length < l1.length; exact (if_pos c_).trans (if_pos (Int.ofNat_lt.2 c_)).symm; exact (if_neg c_).trans (if_neg (fun q_ => c_ (Int.ofNat_lt.1 q_))).symm
   by_cases c4 : x7_1 < (wrap64 ((ji3) + 1))
   ·rw [if_pos c4] at H
    have c4b0 := decide_eq_true c4
    clear c4
    revert H
    refine bd_ fun t973 A5 H => ?_
    revert H
    refine bd_ fun t974 A6 H => ?_
    obtain ⟨c7, H⟩ : (x5_1.length < 35184372088832) ∧ _ := it_ H
    have LMc7 := ak c7
    clear c7
    obtain ⟨y975, hy975⟩ : ∃ y_ : List Int, y_ = (x5_1 ++ [(Int.tmod (IntKind.u64.wrap ((IntKind.u64.wrap (t973 + t974)) + x6_1)) 4294967296) % 4294967296]) := ⟨_, rfl⟩
    first | rw [Option.bind_some, ← hy975] at H | rw [← hy975] at H
    have Ny975 := ak hy975
    clear hy975
    have H' := ak H
    clear H
    go_wp2_with (first | ((with_reducible refine gate_callee (f := 85) rfl ?_); refine gl_ (some 21) Tryd.func85 #[.slice A0 l0.length c0, .int .i64 x7_1] ?_; (with_reducible refine (attestorref02_limb.calls _ _ l0 x7_1 t973 _ ?side1 ?side2 A5.out).mono ?_); (case side1 => exact cU_ (C_below HR0.out HB.out)); (case side2 => exact HC0.out); rintro e w' ⟨rfl, ⟨nd, rfl⟩⟩; refine ⟨_, rfl, ?_⟩) | ((with_reducible refine gate_callee (f := 85) rfl ?_); refine gl_ (some 24) Tryd.func85 #[.slice A1 l1.length c1, .int .i64 x7_1] ?_; (with_reducible refine (attestorref02_limb.calls _ _ l1 x7_1 t974 _ ?side1 ?side2 A6.out).mono ?_); (case side1 => exact (C_below HR1.out (bU_ HB.out))); (case side2 => exact HC1.out); rintro e w' ⟨rfl, ⟨nd, rfl⟩⟩; refine ⟨_, rfl, ?_⟩) | ((with_reducible refine gate_builtin (b := .append) (xs := #[.tmp 28, .tmp 32]) rfl ?_); at_builtin; refine Kd.R_append (Kd.int .u32) (w0 := w) w.heap.size rfl (.tmp 28) (.tmp 32) 23 44 (.int .u32 0) 4 rfl Tryd.underlying23 info44 rfl (by decide) (by omega) u5 x5_1 ((Int.tmod (IntKind.u64.wrap ((IntKind.u64.wrap (t973 + t974)) + x6_1)) 4294967296) % 4294967296) [.int .u32 ((Int.tmod (IntKind.u64.wrap ((IntKind.u64.wrap (t973 + t974)) + x6_1)) 4294967296) % 4294967296)] (fun _ => True) (fun _ => False) rfl rfl ?aP (fun _ hk => hk.elim) ?aF ?aO ?aB ?aS ?aL ?_; (case aP => exact rfl); (case aB => exact (bU_ HB.out)); (case aF => exact (fun _ _ => trivial)); (case aO => exact (rU_ HO_5.out)); (case aS => exact (below_size (bU_ HB.out))); (case aL => have := LMc7.out; omega); intro v976 w8 ho hb hg hat; rw [← Ny975.out] at ho; refine nx2_ (hb) (ho) ?_; clear HB HO_5; intro HB HO977; clear ho hb hg hat))
    go_roundg k1
    case measure => have := HK1.out; omega
    case rel => exact ⟨(y975), (IntKind.u64.wrap (Int.tdiv (IntKind.u64.wrap ((IntKind.u64.wrap (t973 + t974)) + x6_1)) 4294967296)), (wrap64 (x7_1 + 1)), gb_, gb_, H', ⟨by have := HK1.out; omega⟩, ⟨rU_ HO977.out⟩, ⟨bU_ HB.out⟩⟩
   ·rw [if_neg c4] at H
    have c4b0 := decide_eq_false c4
    clear c4
    revert H
    refine bd_ fun t978 A9 H => ?_
    obtain rfl := Option.some.inj H
    obtain ⟨Ao10, co10, eo10⟩ := R_slice HO_5.out
    subst eo10
    go_wp2_with (first | ((with_reducible refine gate_callee (f := 69) rfl ?_); refine gl_ (some 37) Tryd.func69 #[.slice Ao10 x5_1.length co10] ?_; (with_reducible refine (attestorref02_trim.calls k1 _ _ x5_1 t978 _ ?side1 ?side2 A9.out).mono ?_); (case side1 => exact cU_ ((R_reads' HO_5.out).2.2)); (case side2 => exact (R_reads' HO_5.out).2.1); rintro e w11 ⟨v979, rfl, ho0, hb⟩; refine ⟨_, rfl, ?_⟩; refine nx3_ (R_elder' (rU_ HO_5.out) (R_base ho0) hb) (R_lower (R_new' ho0 (R_lt (rU_ HO_5.out))) (below_size (bU_ HB.out))) (below_step (bU_ HB.out) hb) ?_; clear HO_5 HB; intro HO_5 HO980 HB; clear hb ho0))
    go_ret
    exact ⟨_, by first | rfl | (simp [errW_none, errW_some] <;> rfl) | (simp only [← hji3]; first | rfl | (simp [errW_none, errW_some] <;> rfl)) | (simp [*, errW_none, errW_some] <;> rfl), R_mono (rU_ HO980.out) (fun _ hk => trivial), bU_ HB.out⟩

mutual
def attestorref02_product.l0 : Nat → List Int → List Int → List Int → Int → Option (List Int)
 | 0, _, _, _, _ => none
 | k + 1, x0, x1, x5, x6 => if x6 < (x0.length : Int) then (attestorref02_product.l1 k x0 x1 x5 x6 0 0) else ((attestorref02_trim.f k x5).bind fun t984 => (some t984))
def attestorref02_product.l1 : Nat → List Int → List Int → List Int → Int → Int → Int → Option (List Int)
 | 0, _, _, _, _, _, _ => none
 | k + 1, x0, x1, x5, x6, x7, x8 => if x8 < (x1.length : Int) then (if 0 ≤ (wrap64 (x6 + x8)) then (if (wrap64 (x6 + x8)) < (x5.length : Int) then (if 0 ≤ x6 then (if x6 < (x0.length : Int) then (if 0 ≤ x8 then (attestorref02_product.l1 k x0 x1 (x5.set ((wrap64 (x6 + x8)) : Int).toNat ((Int.tmod (IntKind.u64.wrap ((IntKind.u64.wrap ((IntKind.u64.wrap (rd x5 (wrap64 (x6 + x8)))) + (IntKind.u64.wrap ((IntKind.u64.wrap (rd x0 x6)) * (IntKind.u64.wrap (rd x1 x8)))))) + x7)) 4294967296) % 4294967296)) x6 (IntKind.u64.wrap (Int.tdiv (IntKind.u64.wrap ((IntKind.u64.wrap ((IntKind.u64.wrap (rd x5 (wrap64 (x6 + x8)))) + (IntKind.u64.wrap ((IntKind.u64.wrap (rd x0 x6)) * (IntKind.u64.wrap (rd x1 x8)))))) + x7)) 4294967296)) (wrap64 (x8 + 1))) else (none)) else (none)) else (none)) else (none)) else (none)) else (if 0 ≤ (wrap64 (x6 + (x1.length : Int))) then (if (wrap64 (x6 + (x1.length : Int))) < (x5.length : Int) then (attestorref02_product.l0 k x0 x1 (x5.set ((wrap64 (x6 + (x1.length : Int))) : Int).toNat ((x7) % 4294967296)) (wrap64 (x6 + 1))) else (none)) else (none))
end
def attestorref02_product.f (k : Nat) (l0 : List Int) (l1 : List Int) : Option (List Int) := if 0 ≤ (wrap64 ((l0.length : Int) + (l1.length : Int))) then (if (wrap64 ((l0.length : Int) + (l1.length : Int)) : Int).toNat ≤ 70368744177664 then (attestorref02_product.l0 k l0 l1 (List.replicate (wrap64 ((l0.length : Int) + (l1.length : Int)) : Int).toNat 0) 0) else (none)) else (none)
set_option maxHeartbeats 8000000 in
set_option maxRecDepth 100000 in
theorem attestorref02_product.calls (k : Nat) (A0 : Option Addr) (c0 : Nat) (l0 : List Int) (A1 : Option Addr) (c1 : Nat) (l1 : List Int) (r : List Int) (w : World) (hr0 : Kd.C (Kd.int .u32) w A0 l0.length l0) (hc0 : l0.length ≤ c0) (hr1 : Kd.C (Kd.int .u32) w A1 l1.length l1) (hc1 : l1.length ≤ c1) (h : attestorref02_product.f k l0 l1 = some r) :
  Calls Tryd.prog 63 #[.slice A0 l0.length c0, .slice A1 l1.length c1] w fun e w' => ∃ v0_ : Value, e = .returned (v0_) ∧ Kd.R (Kd.int .u32) 44 w' w.heap.size (fun _ => True) v0_ r ∧ Below w.heap.size w w' := by
 have HR0 := ak hr0
 have HC0 := ak hc0
 clear hr0 hc0
 have HR1 := ak hr1
 have HC1 := ak hc1
 clear hr1 hc1
 have HB := ak (Below.refl w.heap.size w)
 have H := h
 clear h
 unfold attestorref02_product.f at H
 obtain ⟨ji3, hji3⟩ : ∃ j_ : Int, (wrap64 ((l0.length : Int) + (l1.length : Int))) = j_ := ⟨_, rfl⟩
 first | rw [hji3] at H | simp only [hji3] at H
 have hji3w : (IntKind.i64.wrap ((l0.length : Int) + (l1.length : Int))) = ji3 := (i64_w _).trans hji3
 obtain ⟨c4, H⟩ : (0 ≤ (ji3)) ∧ _ := it_ H
 have c4b0 := eq_true c4
 have c4b1 := decide_eq_true c4
 clear c4
 obtain ⟨c5, H⟩ : ((ji3 : Int).toNat ≤ 70368744177664) ∧ _ := it_ H
 have c5b0 := eq_true c5
 have c5b1 := decide_eq_true c5
 clear c5
 obtain ⟨y981, hy981⟩ : ∃ y_ : List Int, y_ = (List.replicate (ji3 : Int).toNat 0) := ⟨_, rfl⟩
 first | rw [Option.bind_some, ← hy981] at H | rw [← hy981] at H
 have Ny981 := ak hy981
 clear hy981
 have H' := ak H
 clear H
 go_enter Tryd.func63, Tryd.ntmps63
 go_wp2_with (first | ((with_reducible refine gate_dst (N := 15) rfl ?_); refine R_make (Kd.int .u32) _ 44 rfl (N := 15) rfl 23 _ _ rfl ji3 ?hx ?hy Tryd.underlying23 (.int .u32 0) 4 info44 rfl (by decide) (by omega) 0 (ok := fun _ => True) (okp := fun _ => True) rfl (fun _ hk => hk) trivial od_ (Nat.le_trans (Nat.mul_le_mul_right _ (od_ : ji3.toNat ≤ 70368744177664)) (by omega)) (Below.refl _ _) (Nat.le_refl _) ?_; (case hx => first | rfl | (simp only [hji3]; rfl)); (case hy => first | rfl | (simp only [hji3]; rfl)); intro v982 w6 ho7 hb hg_ hnew_; clear hg_ hnew_; (first | rw [← Ny981.out] at ho7 | (simp only [Int.reduceToNat] at ho7; rw [← Ny981.out] at ho7)); refine nx2_ (R_lower ho7 (below_size (bU_ HB.out))) (below_step (bU_ HB.out) hb) ?_; clear HB; intro HO983 HB; clear hb ho7))
 repeat (go_quiet (first | ((with_reducible refine gate_dst (N := 15) rfl ?_); refine R_make (Kd.int .u32) _ 44 rfl (N := 15) rfl 23 _ _ rfl ji3 ?hx ?hy Tryd.underlying23 (.int .u32 0) 4 info44 rfl (by decide) (by omega) 0 (ok := fun _ => True) (okp := fun _ => True) rfl (fun _ hk => hk) trivial od_ (Nat.le_trans (Nat.mul_le_mul_right _ (od_ : ji3.toNat ≤ 70368744177664)) (by omega)) (Below.refl _ _) (Nat.le_refl _) ?_; (case hx => first | rfl | (simp only [hji3]; rfl)); (case hy => first | rfl | (simp only [hji3]; rfl)); intro v982 w6 ho7 hb hg_ hnew_; clear hg_ hnew_; (first | rw [← Ny981.out] at ho7 | (simp only [Int.reduceToNat] at ho7; rw [← Ny981.out] at ho7)); refine nx2_ (R_lower ho7 (below_size (bU_ HB.out))) (below_step (bU_ HB.out) hb) ?_; clear HB; intro HO983 HB; clear hb ho7)); try go_wp2_with (first | ((with_reducible refine gate_dst (N := 15) rfl ?_); refine R_make (Kd.int .u32) _ 44 rfl (N := 15) rfl 23 _ _ rfl ji3 ?hx ?hy Tryd.underlying23 (.int .u32 0) 4 info44 rfl (by decide) (by omega) 0 (ok := fun _ => True) (okp := fun _ => True) rfl (fun _ hk => hk) trivial od_ (Nat.le_trans (Nat.mul_le_mul_right _ (od_ : ji3.toNat ≤ 70368744177664)) (by omega)) (Below.refl _ _) (Nat.le_refl _) ?_; (case hx => first | rfl | (simp only [hji3]; rfl)); (case hy => first | rfl | (simp only [hji3]; rfl)); intro v982 w6 ho7 hb hg_ hnew_; clear hg_ hnew_; (first | rw [← Ny981.out] at ho7 | (simp only [Int.reduceToNat] at ho7; rw [← Ny981.out] at ho7)); refine nx2_ (R_lower ho7 (below_size (bU_ HB.out))) (below_step (bU_ HB.out) hb) ?_; clear HB; intro HO983 HB; clear hb ho7)))
 go_loopg [6] k (fun kq v6 w' => ∃ (x5_1 : List Int) (x6_1 : Int), v6 = .int .i64 x6_1 ∧ Aside0 (attestorref02_product.l0 kq l0 l1 x5_1 x6_1 = some r) ∧ Aside0 (kq ≤ k) ∧ Aside0 (Kd.R (Kd.int .u32) 44 w' w.heap.size (fun _ => True) v982 x5_1) ∧ Aside0 (Below w.heap.size w w'))
 case atStart => exact ⟨(y981), (0), gb_, H', ⟨Nat.le_refl _⟩, ⟨rU_ HO983.out⟩, ⟨bU_ HB.out⟩⟩
 case round =>
  clear H'
  (try clear c1); (try clear p2); (try clear c4); (try clear c4b0); (try clear c4b1); (try clear c5); (try clear c5b0); (try clear c5b1); (try clear c6); (try clear p6)
  obtain ⟨x5_1, x6_1, rfl, HA, HK1, HO_5, HB⟩ := hrel
  cases gk with
  | zero => exact absurd HA.out (by simp [attestorref02_product.l0])
  | succ k1 =>
   have H := HA.out
   clear HA
   simp only [attestorref02_product.l0] at H
   by_cases c8 : x6_1 < (l0.length : Int)
   ·rw [if_pos c8] at H
    have c8b0 := decide_eq_true c8
    clear c8
    have H' := ak H
    clear H
    go_wp2
    repeat (go_quiet (fail); try go_wp2)
    go_loopg [7, 8] k1 (fun kq v7 v8 w' => ∃ (x5_2 : List Int) (x7_2 : Int) (x8_2 : Int), v7 = .int .u64 x7_2 ∧ v8 = .int .i64 x8_2 ∧ Aside0 (attestorref02_product.l1 kq l0 l1 x5_2 x6_1 x7_2 x8_2 = some r) ∧ Aside0 (kq ≤ k1) ∧ Aside0 (Kd.R (Kd.int .u32) 44 w' w.heap.size (fun _ => True) v982 x5_2) ∧ Aside0 (Below w.heap.size w w'))
    case atStart => exact ⟨(x5_1), (0), (0), gb_, gb_, H', ⟨Nat.le_refl _⟩, ⟨rU_ HO_5.out⟩, ⟨bU_ HB.out⟩⟩
    case round =>
     clear H'
     (try clear c1); (try clear p2); (try clear c4); (try clear c4b0); (try clear c4b1); (try clear c5); (try clear c5b0); (try clear c5b1); (try clear c6); (try clear p6); (try clear c8); (try clear c8b0)
     obtain ⟨x5_2, x7_2, x8_2, rfl, rfl, HA, HK2, HO_5, HB⟩ := hrel
     cases gk with
     | zero => exact absurd HA.out (by simp [attestorref02_product.l1])
     | succ k2 =>
      have H := HA.out
      clear HA
      simp only [attestorref02_product.l1] at H
      by_cases c9 : x8_2 < (l1.length : Int)
      ·rw [if_pos c9] at H
       have c9b0 := decide_eq_true c9
       clear c9
       obtain ⟨ji10, hji10⟩ : ∃ j_ : Int, (wrap64 (x6_1 + x8_2)) = j_ := ⟨_, rfl⟩
       first | rw [hji10] at H | simp only [hji10] at H
       have hji10w : (IntKind.i64.wrap (x6_1 + x8_2)) = ji10 := (i64_w _).trans hji10
       obtain ⟨c11, H⟩ : (0 ≤ (ji10)) ∧ _ := it_ H
       have c11b0 := decide_eq_true c11
       clear c11
       obtain ⟨c12, H⟩ : ((ji10) < (x5_2.length : Int)) ∧ _ := it_ H
       have c12b0 := decide_eq_true c12
       clear c12
       obtain ⟨c13, H⟩ : (0 ≤ x6_1) ∧ _ := it_ H
       have c13b0 := decide_eq_true c13
       clear c13
       obtain ⟨c14, H⟩ : (x6_1 < (l0.length : Int)) ∧ _ := it_ H
       have c14b0 := decide_eq_true c14
       clear c14
       obtain ⟨c15, H⟩ : (0 ≤ x8_2) ∧ _ := it_ H
       have c15b0 := decide_eq_true c15
       clear c15
       obtain ⟨y990, hy990⟩ : ∃ y_ : List Int, y_ = (x5_2.set ((ji10) : Int).toNat ((Int.tmod (IntKind.u64.wrap ((IntKind.u64.wrap ((IntKind.u64.wrap (rd x5_2 (ji10))) + (IntKind.u64.wrap ((IntKind.u64.wrap (rd l0 x6_1)) * (IntKind.u64.wrap (rd l1 x8_2)))))) + x7_2)) 4294967296) % 4294967296)) := ⟨_, rfl⟩
       first | rw [Option.bind_some, ← hy990] at H | rw [← hy990] at H
       have Ny990 := ak hy990
       clear hy990
       have H' := ak H
       clear H
       obtain ⟨Ao18, co18, eo18⟩ := R_slice HO_5.out
       subst eo18
       have pfr17 : 0 ≤ ((ji10) : Int) := od_
       have qfr17 : ((ji10) : Int) < ((x5_2.length : Int) : Int) := od_
       obtain ⟨gofr17, cofr17, eofr17, gbfr17, glfr17, clfr17, HGfr17⟩ := Kd.R_form HO_5.out (by omega)
       (first | cases eofr17 | (injection eofr17 with ea_ en_ ec_; (first | subst ea_ | (injection ea_ with ea_; subst ea_)); subst ec_; clear en_))
       have GBfr17 := ak gbfr17
       have GGfr17 := ak HGfr17
       clear gbfr17 glfr17 HGfr17
       clear pfr17 qfr17
       have p987 : 0 ≤ ((ji10) : Int) := od_
       have q987 : (ji10) < (x5_2.length : Int) := od_
       obtain ⟨ad987, e987, hx987_0⟩ := Kd.at_int (R_reads' HO_5.out).2.2 (ji10) p987 q987
       obtain rfl : (⟨gofr17, 0, none⟩ : Addr) = ad987 := (by injection e987)
       (first | simp only [add_plain] at hx987_0 | simp only [add_at] at hx987_0 | simp only [Addr.add, Nat.zero_add] at hx987_0 | skip)
       replace p987 := eq_true p987
       replace q987 := eq_true q987
       have p988 : 0 ≤ (x6_1 : Int) := od_
       have q988 : x6_1 < (l0.length : Int) := od_
       obtain ⟨ad988, e988, hx988_0⟩ := Kd.at_int HR0.out x6_1 p988 q988
       cases e988
       replace hx988_0 := (HB.out.cell (World.block_lt_of_cell? w _ hx988_0)).trans hx988_0
       replace p988 := eq_true p988
       replace q988 := eq_true q988
       have p989 : 0 ≤ (x8_2 : Int) := od_
       have q989 : x8_2 < (l1.length : Int) := od_
       obtain ⟨ad989, e989, hx989_0⟩ := Kd.at_int HR1.out x8_2 p989 q989
       cases e989
       replace hx989_0 := (HB.out.cell (World.block_lt_of_cell? w _ hx989_0)).trans hx989_0
       replace p989 := eq_true p989
       replace q989 := eq_true q989
       have p16 : 0 ≤ ((ji10) : Int) := od_
       have q16 : ((ji10) : Int) < ((x5_2.length : Int) : Int) := od_
       obtain ⟨hx16_0, hf16_0⟩ := Kd.R_celln 0 HO_5.out ((ji10) : Int) p16 q16
       replace p16 := eq_true p16
       replace q16 := eq_true q16
       have HP19 := Kd.R_putg HO_5.out ((ji10) : Int) ((Int.tmod (IntKind.u64.wrap ((IntKind.u64.wrap ((IntKind.u64.wrap (rd x5_2 (ji10))) + (IntKind.u64.wrap ((IntKind.u64.wrap (rd l0 x6_1)) * (IntKind.u64.wrap (rd l1 x8_2)))))) + x7_2)) 4294967296) % 4294967296)
       go_wp2_with (first | ((with_reducible refine gate_store (t := 44) (p := 56) rfl ?_); (try (rw [drewN_self wr]; generalize hq_ : World.drewN wr _ = wr; have n0_ := ak (R_at hq_ HO_5.out); have n1_ := ak (below_at hq_ HB.out); clear hq_ HO_5 HB; have HO_5 := n0_; have HB := n1_; clear n0_ n1_; (try (obtain ⟨hz16_0, hy16_0⟩ := Kd.R_celln 0 HO_5.out ((ji10) : Int) (of_eq_true p16) (of_eq_true q16))); (try (have HP19 := Kd.R_putg HO_5.out ((ji10) : Int) ((Int.tmod (IntKind.u64.wrap ((IntKind.u64.wrap ((IntKind.u64.wrap (rd x5_2 (ji10))) + (IntKind.u64.wrap ((IntKind.u64.wrap (rd l0 x6_1)) * (IntKind.u64.wrap (rd l1 x8_2)))))) + x7_2)) 4294967296) % 4294967296))))); refine store_event (t := 44) (p := 56) (v := ?vo_w20) (w1 := (wr.setCell ⟨gofr17, ((ji10) : Int).toNat, none⟩ (.int .u32 ((Int.tmod (IntKind.u64.wrap ((IntKind.u64.wrap ((IntKind.u64.wrap (rd x5_2 (ji10))) + (IntKind.u64.wrap ((IntKind.u64.wrap (rd l0 x6_1)) * (IntKind.u64.wrap (rd l1 x8_2)))))) + x7_2)) 4294967296) % 4294967296)))) ?hg ?ho ?hn ?hr ?_; (case ho => rfl); (case hg => rfl); (case hn => rfl); (case hr => first | (go_simp; done) | (go_simp; rfl)); intro w20 hw; have hg : wr.grownBy w20 (some gofr17) := (by rw [hw]; exact HP19.2); have hp_ : Kd.R (Kd.int .u32) 44 w20 w.heap.size (fun _ => True) (.slice (some ⟨gofr17, 0, none⟩) x5_2.length co18) y990 := (by rw [hw, Ny990.out]; exact HP19.1); clear HP19; refine nx2_ (hp_) ((by rw [hw]; exact below_set (HB.out) GBfr17.out : Below w.heap.size w w20)) ?_; clear HO_5 HB; intro HO_5 HB; clear hg hw hp_))
       repeat (go_quiet (first | ((with_reducible refine gate_store (t := 44) (p := 56) rfl ?_); (try (rw [drewN_self wr]; generalize hq_ : World.drewN wr _ = wr; have n0_ := ak (R_at hq_ HO_5.out); have n1_ := ak (below_at hq_ HB.out); clear hq_ HO_5 HB; have HO_5 := n0_; have HB := n1_; clear n0_ n1_; (try (obtain ⟨hz16_0, hy16_0⟩ := Kd.R_celln 0 HO_5.out ((ji10) : Int) (of_eq_true p16) (of_eq_true q16))); (try (have HP19 := Kd.R_putg HO_5.out ((ji10) : Int) ((Int.tmod (IntKind.u64.wrap ((IntKind.u64.wrap ((IntKind.u64.wrap (rd x5_2 (ji10))) + (IntKind.u64.wrap ((IntKind.u64.wrap (rd l0 x6_1)) * (IntKind.u64.wrap (rd l1 x8_2)))))) + x7_2)) 4294967296) % 4294967296))))); refine store_event (t := 44) (p := 56) (v := ?vo_w20) (w1 := (wr.setCell ⟨gofr17, ((ji10) : Int).toNat, none⟩ (.int .u32 ((Int.tmod (IntKind.u64.wrap ((IntKind.u64.wrap ((IntKind.u64.wrap (rd x5_2 (ji10))) + (IntKind.u64.wrap ((IntKind.u64.wrap (rd l0 x6_1)) * (IntKind.u64.wrap (rd l1 x8_2)))))) + x7_2)) 4294967296) % 4294967296)))) ?hg ?ho ?hn ?hr ?_; (case ho => rfl); (case hg => rfl); (case hn => rfl); (case hr => first | (go_simp; done) | (go_simp; rfl)); intro w20 hw; have hg : wr.grownBy w20 (some gofr17) := (by rw [hw]; exact HP19.2); have hp_ : Kd.R (Kd.int .u32) 44 w20 w.heap.size (fun _ => True) (.slice (some ⟨gofr17, 0, none⟩) x5_2.length co18) y990 := (by rw [hw, Ny990.out]; exact HP19.1); clear HP19; refine nx2_ (hp_) ((by rw [hw]; exact below_set (HB.out) GBfr17.out : Below w.heap.size w w20)) ?_; clear HO_5 HB; intro HO_5 HB; clear hg hw hp_)); try go_wp2_with (first | ((with_reducible refine gate_store (t := 44) (p := 56) rfl ?_); (try (rw [drewN_self wr]; generalize hq_ : World.drewN wr _ = wr; have n0_ := ak (R_at hq_ HO_5.out); have n1_ := ak (below_at hq_ HB.out); clear hq_ HO_5 HB; have HO_5 := n0_; have HB := n1_; clear n0_ n1_; (try (obtain ⟨hz16_0, hy16_0⟩ := Kd.R_celln 0 HO_5.out ((ji10) : Int) (of_eq_true p16) (of_eq_true q16))); (try (have HP19 := Kd.R_putg HO_5.out ((ji10) : Int) ((Int.tmod (IntKind.u64.wrap ((IntKind.u64.wrap ((IntKind.u64.wrap (rd x5_2 (ji10))) + (IntKind.u64.wrap ((IntKind.u64.wrap (rd l0 x6_1)) * (IntKind.u64.wrap (rd l1 x8_2)))))) + x7_2)) 4294967296) % 4294967296))))); refine store_event (t := 44) (p := 56) (v := ?vo_w20) (w1 := (wr.setCell ⟨gofr17, ((ji10) : Int).toNat, none⟩ (.int .u32 ((Int.tmod (IntKind.u64.wrap ((IntKind.u64.wrap ((IntKind.u64.wrap (rd x5_2 (ji10))) + (IntKind.u64.wrap ((IntKind.u64.wrap (rd l0 x6_1)) * (IntKind.u64.wrap (rd l1 x8_2)))))) + x7_2)) 4294967296) % 4294967296)))) ?hg ?ho ?hn ?hr ?_; (case ho => rfl); (case hg => rfl); (case hn => rfl); (case hr => first | (go_simp; done) | (go_simp; rfl)); intro w20 hw; have hg : wr.grownBy w20 (some gofr17) := (by rw [hw]; exact HP19.2); have hp_ : Kd.R (Kd.int .u32) 44 w20 w.heap.size (fun _ => True) (.slice (some ⟨gofr17, 0, none⟩) x5_2.length co18) y990 := (by rw [hw, Ny990.out]; exact HP19.1); clear HP19; refine nx2_ (hp_) ((by rw [hw]; exact below_set (HB.out) GBfr17.out : Below w.heap.size w w20)) ?_; clear HO_5 HB; intro HO_5 HB; clear hg hw hp_)))
       go_roundg k2
       case measure => have := HK1.out; have := HK2.out; omega
       case rel => exact ⟨(y990), (IntKind.u64.wrap (Int.tdiv (IntKind.u64.wrap ((IntKind.u64.wrap ((IntKind.u64.wrap (rd x5_2 (ji10))) + (IntKind.u64.wrap ((IntKind.u64.wrap (rd l0 x6_1)) * (IntKind.u64.wrap (rd l1 x8_2)))))) + x7_2)) 4294967296)), (wrap64 (x8_2 + 1)), (by first | rfl | (simp; done) | (simp only [← hji10] <;> (first | rfl | simp)) | (simp [*]; done)), gb_, H', ⟨by have := HK1.out; have := HK2.out; omega⟩, ⟨rU_ HO_5.out⟩, ⟨bU_ HB.out⟩⟩
      ·rw [if_neg c9] at H
       have c9b0 := decide_eq_false c9
       clear c9
       obtain ⟨ji21, hji21⟩ : ∃ j_ : Int, (wrap64 (x6_1 + (l1.length : Int))) = j_ := ⟨_, rfl⟩
       first | rw [hji21] at H | simp only [hji21] at H
       have hji21w : (IntKind.i64.wrap (x6_1 + (l1.length : Int))) = ji21 := (i64_w _).trans hji21
       obtain ⟨c22, H⟩ : (0 ≤ (ji21)) ∧ _ := it_ H
       have c22b0 := decide_eq_true c22
       clear c22
       obtain ⟨c23, H⟩ : ((ji21) < (x5_2.length : Int)) ∧ _ := it_ H
       have c23b0 := decide_eq_true c23
       clear c23
       obtain ⟨y991, hy991⟩ : ∃ y_ : List Int, y_ = (x5_2.set ((ji21) : Int).toNat ((x7_2) % 4294967296)) := ⟨_, rfl⟩
       first | rw [Option.bind_some, ← hy991] at H | rw [← hy991] at H
       have Ny991 := ak hy991
       clear hy991
       have H' := ak H
       clear H
       have p24 : 0 ≤ ((ji21) : Int) := od_
       have q24 : ((ji21) : Int) < ((x5_2.length : Int) : Int) := od_
       obtain ⟨go24, co24, eo24, gb24, gl24, cl24, HG24⟩ := Kd.R_form HO_5.out (by omega)
       (first | cases eo24 | (injection eo24 with ea_ en_ ec_; (first | subst ea_ | (injection ea_ with ea_; subst ea_)); subst ec_; clear en_))
       have GB24 := ak gb24
       have GG24 := ak HG24
       clear gb24 gl24 HG24
       obtain ⟨hx24_0, hf24_0⟩ := Kd.R_celln 0 HO_5.out ((ji21) : Int) p24 q24
       replace p24 := eq_true p24
       replace q24 := eq_true q24
       have HP25 := Kd.R_putg HO_5.out ((ji21) : Int) ((x7_2) % 4294967296)
       go_wp2_with (first | ((with_reducible refine gate_store (t := 44) (p := 66) rfl ?_); (try (rw [drewN_self wr]; generalize hq_ : World.drewN wr _ = wr; have n0_ := ak (R_at hq_ HO_5.out); have n1_ := ak (below_at hq_ HB.out); clear hq_ HO_5 HB; have HO_5 := n0_; have HB := n1_; clear n0_ n1_; (try (obtain ⟨hz24_0, hy24_0⟩ := Kd.R_celln 0 HO_5.out ((ji21) : Int) (of_eq_true p24) (of_eq_true q24))); (try (have HP25 := Kd.R_putg HO_5.out ((ji21) : Int) ((x7_2) % 4294967296))))); refine store_event (t := 44) (p := 66) (v := ?vo_w26) (w1 := (wr.setCell ⟨go24, ((ji21) : Int).toNat, none⟩ (.int .u32 ((x7_2) % 4294967296)))) ?hg ?ho ?hn ?hr ?_; (case ho => rfl); (case hg => rfl); (case hn => rfl); (case hr => first | (go_simp; done) | (go_simp; rfl)); intro w26 hw; have hg : wr.grownBy w26 (some go24) := (by rw [hw]; exact HP25.2); have hp_ : Kd.R (Kd.int .u32) 44 w26 w.heap.size (fun _ => True) (.slice (some ⟨go24, 0, none⟩) x5_2.length co24) y991 := (by rw [hw, Ny991.out]; exact HP25.1); clear HP25; refine nx2_ (hp_) ((by rw [hw]; exact below_set (HB.out) GB24.out : Below w.heap.size w w26)) ?_; clear HO_5 HB; intro HO_5 HB; clear hg hw hp_))
       repeat (go_quiet (first | ((with_reducible refine gate_store (t := 44) (p := 66) rfl ?_); (try (rw [drewN_self wr]; generalize hq_ : World.drewN wr _ = wr; have n0_ := ak (R_at hq_ HO_5.out); have n1_ := ak (below_at hq_ HB.out); clear hq_ HO_5 HB; have HO_5 := n0_; have HB := n1_; clear n0_ n1_; (try (obtain ⟨hz24_0, hy24_0⟩ := Kd.R_celln 0 HO_5.out ((ji21) : Int) (of_eq_true p24) (of_eq_true q24))); (try (have HP25 := Kd.R_putg HO_5.out ((ji21) : Int) ((x7_2) % 4294967296))))); refine store_event (t := 44) (p := 66) (v := ?vo_w26) (w1 := (wr.setCell ⟨go24, ((ji21) : Int).toNat, none⟩ (.int .u32 ((x7_2) % 4294967296)))) ?hg ?ho ?hn ?hr ?_; (case ho => rfl); (case hg => rfl); (case hn => rfl); (case hr => first | (go_simp; done) | (go_simp; rfl)); intro w26 hw; have hg : wr.grownBy w26 (some go24) := (by rw [hw]; exact HP25.2); have hp_ : Kd.R (Kd.int .u32) 44 w26 w.heap.size (fun _ => True) (.slice (some ⟨go24, 0, none⟩) x5_2.length co24) y991 := (by rw [hw, Ny991.out]; exact HP25.1); clear HP25; refine nx2_ (hp_) ((by rw [hw]; exact below_set (HB.out) GB24.out : Below w.heap.size w w26)) ?_; clear HO_5 HB; intro HO_5 HB; clear hg hw hp_)); try go_wp2_with (first | ((with_reducible refine gate_store (t := 44) (p := 66) rfl ?_); (try (rw [drewN_self wr]; generalize hq_ : World.drewN wr _ = wr; have n0_ := ak (R_at hq_ HO_5.out); have n1_ := ak (below_at hq_ HB.out); clear hq_ HO_5 HB; have HO_5 := n0_; have HB := n1_; clear n0_ n1_; (try (obtain ⟨hz24_0, hy24_0⟩ := Kd.R_celln 0 HO_5.out ((ji21) : Int) (of_eq_true p24) (of_eq_true q24))); (try (have HP25 := Kd.R_putg HO_5.out ((ji21) : Int) ((x7_2) % 4294967296))))); refine store_event (t := 44) (p := 66) (v := ?vo_w26) (w1 := (wr.setCell ⟨go24, ((ji21) : Int).toNat, none⟩ (.int .u32 ((x7_2) % 4294967296)))) ?hg ?ho ?hn ?hr ?_; (case ho => rfl); (case hg => rfl); (case hn => rfl); (case hr => first | (go_simp; done) | (go_simp; rfl)); intro w26 hw; have hg : wr.grownBy w26 (some go24) := (by rw [hw]; exact HP25.2); have hp_ : Kd.R (Kd.int .u32) 44 w26 w.heap.size (fun _ => True) (.slice (some ⟨go24, 0, none⟩) x5_2.length co24) y991 := (by rw [hw, Ny991.out]; exact HP25.1); clear HP25; refine nx2_ (hp_) ((by rw [hw]; exact below_set (HB.out) GB24.out : Below w.heap.size w w26)) ?_; clear HO_5 HB; intro HO_5 HB; clear hg hw hp_)))
       go_roundg k2
       case measure => have := HK1.out; have := HK2.out; omega
       case rel => exact ⟨(y991), (wrap64 (x6_1 + 1)), gb_, H', ⟨by have := HK1.out; have := HK2.out; omega⟩, ⟨rU_ HO_5.out⟩, ⟨bU_ HB.out⟩⟩
   ·rw [if_neg c8] at H
    have c8b0 := decide_eq_false c8
    clear c8
    revert H
    refine bd_ fun t984 A27 H => ?_
    obtain rfl := Option.some.inj H
    obtain ⟨Ao28, co28, eo28⟩ := R_slice HO_5.out
    subst eo28
    go_wp2_with (first | (go_at_call 69; (with_reducible refine (attestorref02_trim.calls k1 _ _ x5_1 t984 _ ?side1 ?side2 A27.out).mono ?_); (case side1 => exact cU_ ((R_reads' HO_5.out).2.2)); (case side2 => exact (R_reads' HO_5.out).2.1); rintro e w29 ⟨v985, rfl, ho0, hb⟩; refine nx3_ (R_elder' (rU_ HO_5.out) (R_base ho0) hb) (R_lower (R_new' ho0 (R_lt (rU_ HO_5.out))) (below_size (bU_ HB.out))) (below_step (bU_ HB.out) hb) ?_; clear HO_5 HB; intro HO_5 HO986 HB; clear hb ho0))
    repeat (go_quiet (first | (go_at_call 69; (with_reducible refine (attestorref02_trim.calls k1 _ _ x5_1 t984 _ ?side1 ?side2 A27.out).mono ?_); (case side1 => exact cU_ ((R_reads' HO_5.out).2.2)); (case side2 => exact (R_reads' HO_5.out).2.1); rintro e w29 ⟨v985, rfl, ho0, hb⟩; refine nx3_ (R_elder' (rU_ HO_5.out) (R_base ho0) hb) (R_lower (R_new' ho0 (R_lt (rU_ HO_5.out))) (below_size (bU_ HB.out))) (below_step (bU_ HB.out) hb) ?_; clear HO_5 HB; intro HO_5 HO986 HB; clear hb ho0)); try go_wp2_with (first | (go_at_call 69; (with_reducible refine (attestorref02_trim.calls k1 _ _ x5_1 t984 _ ?side1 ?side2 A27.out).mono ?_); (case side1 => exact cU_ ((R_reads' HO_5.out).2.2)); (case side2 => exact (R_reads' HO_5.out).2.1); rintro e w29 ⟨v985, rfl, ho0, hb⟩; refine nx3_ (R_elder' (rU_ HO_5.out) (R_base ho0) hb) (R_lower (R_new' ho0 (R_lt (rU_ HO_5.out))) (below_size (bU_ HB.out))) (below_step (bU_ HB.out) hb) ?_; clear HO_5 HB; intro HO_5 HO986 HB; clear hb ho0)))
    go_ret
    exact ⟨_, by first | rfl | (simp [errW_none, errW_some] <;> rfl) | (simp only [← hji3]; first | rfl | (simp [errW_none, errW_some] <;> rfl)) | (simp [*, errW_none, errW_some] <;> rfl), R_mono (rU_ HO986.out) (fun _ hk => trivial), bU_ HB.out⟩

def attestorref02_ValidNat.f (l0 : List Int) : Option (Bool) := if (l0.length : Int) ≤ 64 then (if (l0.length : Int) = 0 then (some true) else (if 0 ≤ (wrap64 ((l0.length : Int) - 1)) then (if (wrap64 ((l0.length : Int) - 1)) < (l0.length : Int) then (some ((rd l0 (wrap64 ((l0.length : Int) - 1))) != 0)) else (none)) else (none))) else (some false)
set_option maxHeartbeats 8000000 in
set_option maxRecDepth 100000 in
theorem attestorref02_ValidNat.calls (A0 : Option Addr) (c0 : Nat) (l0 : List Int) (r : Bool) (w : World) (hr0 : Kd.C (Kd.int .u32) w A0 l0.length l0) (hc0 : l0.length ≤ c0) (h : attestorref02_ValidNat.f l0 = some r) :
  Calls Tryd.prog 48 #[.slice A0 l0.length c0] w fun e w' => e = .returned (.bool r) ∧ Drawn0 w w' := by
 have HR0 := ak hr0
 have HC0 := ak hc0
 clear hr0 hc0
 have H := h
 clear h
 unfold attestorref02_ValidNat.f at H
 by_cases c2 : (l0.length : Int) ≤ 64
 ·rw [if_pos c2] at H
  have c2b0 := decide_eq_true c2
  have c2b1 : decide (l0.length ≤ 64) = true := decide_eq_true (by omega)
  clear c2
  by_cases c3 : (l0.length : Int) = 0
  ·rw [if_pos c3] at H
   have c3b0 := beq_iff_eq.mpr c3
   have c3b1 := bne_eq_false_iff_eq.mpr c3
   clear c3
   obtain rfl := Option.some.inj H
   go_enter Tryd.func48, Tryd.ntmps48
   go_wp2
   go_ret
   exact ⟨by first | rfl | (simp; done) | (simp [*]; done), by repeat (first | exact Drawn0.refl _ | apply Drawn0.step)⟩
  ·rw [if_neg c3] at H
   have c3b0 := beq_eq_false_iff_ne.mpr c3
   have c3b1 := bne_iff_ne.mpr c3
   have c3b2 : ¬ (l0 = []) := fun h_ => c3 (by rw [h_]; rfl)
   obtain ⟨ji4, hji4⟩ : ∃ j_ : Int, (wrap64 ((l0.length : Int) - 1)) = j_ := ⟨_, rfl⟩
   first | rw [hji4] at H | simp only [hji4] at H
   have hji4w : (IntKind.i64.wrap ((l0.length : Int) - 1)) = ji4 := (i64_w _).trans hji4
   obtain ⟨c5, H⟩ : (0 ≤ (ji4)) ∧ _ := it_ H
   have c5b0 := decide_eq_true c5
   clear c5
   obtain ⟨c6, H⟩ : ((ji4) < (l0.length : Int)) ∧ _ := it_ H
   have c6b0 := decide_eq_true c6
   clear c6
   obtain rfl := Option.some.inj H
   have p1009 : 0 ≤ ((ji4) : Int) := od_
   have q1009 : (ji4) < (l0.length : Int) := od_
   obtain ⟨ad1009, e1009, hx1009_0⟩ := Kd.at_int HR0.out (ji4) p1009 q1009
   cases e1009
   replace p1009 := eq_true p1009
   replace q1009 := eq_true q1009
   go_enter Tryd.func48, Tryd.ntmps48
   go_wp2
   go_ret
   exact ⟨by first | rfl | (simp; done) | (simp only [← hji4] <;> (first | rfl | simp)) | (simp [*]; done), by repeat (first | exact Drawn0.refl _ | apply Drawn0.step)⟩
 ·rw [if_neg c2] at H
  have c2b0 := decide_eq_false c2
  have c2b1 : decide (l0.length ≤ 64) = false := decide_eq_false (by omega)
  clear c2
  obtain rfl := Option.some.inj H
  go_enter Tryd.func48, Tryd.ntmps48
  go_wp2
  go_ret
  exact ⟨by first | rfl | (simp; done) | (simp [*]; done), by repeat (first | exact Drawn0.refl _ | apply Drawn0.step)⟩

def attestorref02_order.l0 : Nat → List Int → List Int → Int → Option (Int)
 | 0, _, _, _ => none
 | k + 1, x0, x1, x5 => if x5 ≥ 0 then (if 0 ≤ x5 then (if x5 < (x0.length : Int) then (if x5 < (x1.length : Int) then (if (rd x0 x5) < (rd x1 x5) then (some (-1)) else (if (rd x0 x5) > (rd x1 x5) then (some 1) else (attestorref02_order.l0 k x0 x1 (wrap64 (x5 - 1))))) else (none)) else (none)) else (none)) else (some 0)
def attestorref02_order.f (k : Nat) (l0 : List Int) (l1 : List Int) : Option (Int) := if (l0.length : Int) = (l1.length : Int) then (attestorref02_order.l0 k l0 l1 (wrap64 ((l0.length : Int) - 1))) else (if (l0.length : Int) < (l1.length : Int) then (some (-1)) else (some 1))
set_option maxHeartbeats 8000000 in
set_option maxRecDepth 100000 in
theorem attestorref02_order.calls (k : Nat) (A0 : Option Addr) (c0 : Nat) (l0 : List Int) (A1 : Option Addr) (c1 : Nat) (l1 : List Int) (r : Int) (w : World) (hr0 : Kd.C (Kd.int .u32) w A0 l0.length l0) (hc0 : l0.length ≤ c0) (hr1 : Kd.C (Kd.int .u32) w A1 l1.length l1) (hc1 : l1.length ≤ c1) (h : attestorref02_order.f k l0 l1 = some r) :
  Calls Tryd.prog 80 #[.slice A0 l0.length c0, .slice A1 l1.length c1] w fun e w' => e = .returned (.int .i64 r) ∧ Drawn0 w w' := by
 have HR0 := ak hr0
 have HC0 := ak hc0
 clear hr0 hc0
 have HR1 := ak hr1
 have HC1 := ak hc1
 clear hr1 hc1
 have H := h
 clear h
 unfold attestorref02_order.f at H
 by_cases c3 : (l0.length : Int) = (l1.length : Int)
 ·rw [if_pos c3] at H
  have c3b0 := beq_iff_eq.mpr c3
  have c3b1 := bne_eq_false_iff_eq.mpr c3
  have c3b2 : (l0.length == l1.length) = true := by first | simpa using c3 | (simp at c3 ⊢; omega)
  clear c3
  have H' := ak H
  clear H
  go_enter Tryd.func80, Tryd.ntmps80
  go_wp2
  repeat (go_quiet (fail); try go_wp2)
  go_loopg [5] k (fun kq v5 w' => ∃ (x5_1 : Int), v5 = .int .i64 x5_1 ∧ Aside0 (attestorref02_order.l0 kq l0 l1 x5_1 = some r) ∧ Aside0 (kq ≤ k) ∧ Drawn0 w w')
  case atStart => exact ⟨(wrap64 ((l0.length : Int) - 1)), gb_, H', ⟨Nat.le_refl _⟩, by repeat (first | exact Drawn0.refl _ | apply Drawn0.step)⟩
  case round =>
   clear H'
   (try clear c1); (try clear p2); (try clear c3); (try clear c3b0); (try clear c3b1); (try clear c3b2)
   obtain ⟨x5_1, rfl, HA, HK1, ⟨m1, rfl⟩⟩ := hrel
   cases gk with
   | zero => exact absurd HA.out (by simp [attestorref02_order.l0])
   | succ k1 =>
    have H := HA.out
    clear HA
    simp only [attestorref02_order.l0] at H
    by_cases c4 : x5_1 ≥ 0
    ·rw [if_pos c4] at H
     have c4b0 : decide (0 ≤ x5_1) = true := decide_eq_true c4
     clear c4
     obtain ⟨c5, H⟩ : (0 ≤ x5_1) ∧ _ := it_ H
     have c5b0 := decide_eq_true c5
     clear c5
     obtain ⟨c6, H⟩ : (x5_1 < (l0.length : Int)) ∧ _ := it_ H
     have c6b0 := decide_eq_true c6
     clear c6
     obtain ⟨c7, H⟩ : (x5_1 < (l1.length : Int)) ∧ _ := it_ H
     have c7b0 := decide_eq_true c7
     clear c7
     by_cases c8 : (rd l0 x5_1) < (rd l1 x5_1)
     ·rw [if_pos c8] at H
      have c8b0 := decide_eq_true c8
      clear c8
      obtain rfl := Option.some.inj H
      have p1010 : 0 ≤ (x5_1 : Int) := od_
      have q1010 : x5_1 < (l0.length : Int) := od_
      obtain ⟨ad1010, e1010, hx1010_0⟩ := Kd.at_int HR0.out x5_1 p1010 q1010
      cases e1010
      replace p1010 := eq_true p1010
      replace q1010 := eq_true q1010
      have p1011 : 0 ≤ (x5_1 : Int) := od_
      have q1011 : x5_1 < (l1.length : Int) := od_
      obtain ⟨ad1011, e1011, hx1011_0⟩ := Kd.at_int HR1.out x5_1 p1011 q1011
      cases e1011
      replace p1011 := eq_true p1011
      replace q1011 := eq_true q1011
      go_wp2
      repeat (go_quiet (fail); try go_wp2)
      go_ret
      exact ⟨by first | rfl | (simp; done) | (simp [*]; done), by repeat (first | exact Drawn0.refl _ | apply Drawn0.step)⟩
     ·rw [if_neg c8] at H
      have c8b0 := decide_eq_false c8
      clear c8
      by_cases c9 : (rd l0 x5_1) > (rd l1 x5_1)
      ·rw [if_pos c9] at H
       have c9b0 : decide ((rd l1 x5_1) < (rd l0 x5_1)) = true := decide_eq_true c9
       clear c9
       obtain rfl := Option.some.inj H
       have p1010 : 0 ≤ (x5_1 : Int) := od_
       have q1010 : x5_1 < (l0.length : Int) := od_
       obtain ⟨ad1010, e1010, hx1010_0⟩ := Kd.at_int HR0.out x5_1 p1010 q1010
       cases e1010
       replace p1010 := eq_true p1010
       replace q1010 := eq_true q1010
       have p1011 : 0 ≤ (x5_1 : Int) := od_
       have q1011 : x5_1 < (l1.length : Int) := od_
       obtain ⟨ad1011, e1011, hx1011_0⟩ := Kd.at_int HR1.out x5_1 p1011 q1011
       cases e1011
       replace p1011 := eq_true p1011
       replace q1011 := eq_true q1011
       have p1012 : 0 ≤ (x5_1 : Int) := od_
       have q1012 : x5_1 < (l0.length : Int) := od_
       obtain ⟨ad1012, e1012, hx1012_0⟩ := Kd.at_int HR0.out x5_1 p1012 q1012
       obtain rfl : ad1010 = ad1012 := (by injection e1012)
       replace p1012 := eq_true p1012
       replace q1012 := eq_true q1012
       have p1013 : 0 ≤ (x5_1 : Int) := od_
       have q1013 : x5_1 < (l1.length : Int) := od_
       obtain ⟨ad1013, e1013, hx1013_0⟩ := Kd.at_int HR1.out x5_1 p1013 q1013
       obtain rfl : ad1011 = ad1013 := (by injection e1013)
       replace p1013 := eq_true p1013
       replace q1013 := eq_true q1013
       go_wp2
       repeat (go_quiet (fail); try go_wp2)
       go_ret
       exact ⟨by first | rfl | (simp; done) | (simp [*]; done), by repeat (first | exact Drawn0.refl _ | apply Drawn0.step)⟩
      ·rw [if_neg c9] at H
       have c9b0 : decide ((rd l1 x5_1) < (rd l0 x5_1)) = false := decide_eq_false c9
       clear c9
       have H' := ak H
       clear H
       have p1010 : 0 ≤ (x5_1 : Int) := od_
       have q1010 : x5_1 < (l0.length : Int) := od_
       obtain ⟨ad1010, e1010, hx1010_0⟩ := Kd.at_int HR0.out x5_1 p1010 q1010
       cases e1010
       replace p1010 := eq_true p1010
       replace q1010 := eq_true q1010
       have p1011 : 0 ≤ (x5_1 : Int) := od_
       have q1011 : x5_1 < (l1.length : Int) := od_
       obtain ⟨ad1011, e1011, hx1011_0⟩ := Kd.at_int HR1.out x5_1 p1011 q1011
       cases e1011
       replace p1011 := eq_true p1011
       replace q1011 := eq_true q1011
       have p1012 : 0 ≤ (x5_1 : Int) := od_
       have q1012 : x5_1 < (l0.length : Int) := od_
       obtain ⟨ad1012, e1012, hx1012_0⟩ := Kd.at_int HR0.out x5_1 p1012 q1012
       obtain rfl : ad1010 = ad1012 := (by injection e1012)
       replace p1012 := eq_true p1012
       replace q1012 := eq_true q1012
       have p1013 : 0 ≤ (x5_1 : Int) := od_
       have q1013 : x5_1 < (l1.length : Int) := od_
       obtain ⟨ad1013, e1013, hx1013_0⟩ := Kd.at_int HR1.out x5_1 p1013 q1013
       obtain rfl : ad1011 = ad1013 := (by injection e1013)
       replace p1013 := eq_true p1013
       replace q1013 := eq_true q1013
       go_wp2
       repeat (go_quiet (fail); try go_wp2)
       go_roundg k1
       case measure => have := HK1.out; omega
       case rel => exact ⟨(wrap64 (x5_1 - 1)), gb_, H', ⟨by have := HK1.out; omega⟩, by repeat (first | exact Drawn0.refl _ | apply Drawn0.step)⟩
    ·rw [if_neg c4] at H
     have c4b0 : decide (0 ≤ x5_1) = false := decide_eq_false c4
     clear c4
     obtain rfl := Option.some.inj H
     go_wp2
     repeat (go_quiet (fail); try go_wp2)
     go_ret
     exact ⟨by first | rfl | (simp; done) | (simp [*]; done), by repeat (first | exact Drawn0.refl _ | apply Drawn0.step)⟩
 ·rw [if_neg c3] at H
  have c3b0 := beq_eq_false_iff_ne.mpr c3
  have c3b1 := bne_iff_ne.mpr c3
  have c3b2 : (l0.length == l1.length) = false := by first | simpa using c3 | (simp at c3 ⊢; omega)
  by_cases c10 : (l0.length : Int) < (l1.length : Int)
  ·rw [if_pos c10] at H
   have c10b0 := decide_eq_true c10
   have c10b1 : decide (l0.length < l1.length) = true := decide_eq_true (Int.ofNat_lt.mp c10)
   clear c10
   obtain rfl := Option.some.inj H
   go_enter Tryd.func80, Tryd.ntmps80
   go_wp2
   repeat (go_quiet (fail); try go_wp2)
   go_ret
   exact ⟨by first | rfl | (simp; done) | (simp [*]; done), by repeat (first | exact Drawn0.refl _ | apply Drawn0.step)⟩
  ·rw [if_neg c10] at H
   have c10b0 := decide_eq_false c10
   have c10b1 : decide (l0.length < l1.length) = false := decide_eq_false (fun h => c10 (Int.ofNat_lt.mpr h))
   clear c10
   obtain rfl := Option.some.inj H
   go_enter Tryd.func80, Tryd.ntmps80
   go_wp2
   repeat (go_quiet (fail); try go_wp2)
   go_ret
   exact ⟨by first | rfl | (simp; done) | (simp [*]; done), by repeat (first | exact Drawn0.refl _ | apply Drawn0.step)⟩

def attestorref02_diff.l0 : Nat → List Int → List Int → List Int → Int → Int → Option (List Int)
 | 0, _, _, _, _, _ => none
 | k + 1, x0, x1, x5, x6, x7 => if x7 < (x0.length : Int) then ((attestorref02_limb.f x0 x7).bind fun t1017 => ((attestorref02_limb.f x1 x7).bind fun t1018 => (if t1017 < (IntKind.u64.wrap (t1018 + x6)) then (if x5.length < 35184372088832 then (attestorref02_diff.l0 k x0 x1 (x5 ++ [(IntKind.u64.wrap ((IntKind.u64.wrap (t1017 + 4294967296)) - (IntKind.u64.wrap (t1018 + x6)))) % 4294967296]) 1 (wrap64 (x7 + 1))) else (none)) else (if x5.length < 35184372088832 then (attestorref02_diff.l0 k x0 x1 (x5 ++ [(IntKind.u64.wrap (t1017 - (IntKind.u64.wrap (t1018 + x6)))) % 4294967296]) 0 (wrap64 (x7 + 1))) else (none))))) else ((attestorref02_trim.f k x5).bind fun t1014 => (some t1014))
def attestorref02_diff.f (k : Nat) (l0 : List Int) (l1 : List Int) : Option (List Int) := attestorref02_diff.l0 k l0 l1 ([] : List Int) 0 0
set_option maxHeartbeats 8000000 in
set_option maxRecDepth 100000 in
theorem attestorref02_diff.calls (k : Nat) (A0 : Option Addr) (c0 : Nat) (l0 : List Int) (A1 : Option Addr) (c1 : Nat) (l1 : List Int) (r : List Int) (w : World) (hr0 : Kd.C (Kd.int .u32) w A0 l0.length l0) (hc0 : l0.length ≤ c0) (hr1 : Kd.C (Kd.int .u32) w A1 l1.length l1) (hc1 : l1.length ≤ c1) (h : attestorref02_diff.f k l0 l1 = some r) :
  Calls Tryd.prog 82 #[.slice A0 l0.length c0, .slice A1 l1.length c1] w fun e w' => ∃ v0_ : Value, e = .returned (v0_) ∧ Kd.R (Kd.int .u32) 44 w' w.heap.size (fun _ => True) v0_ r ∧ Below w.heap.size w w' := by
 have HR0 := ak hr0
 have HC0 := ak hc0
 clear hr0 hc0
 have HR1 := ak hr1
 have HC1 := ak hc1
 clear hr1 hc1
 have HB := ak (Below.refl w.heap.size w)
 have H : (attestorref02_diff.l0 k l0 l1 ([] : List Int) 0 0) = some r := h
 clear h
 have H' := ak H
 clear H
 go_enter Tryd.func82, Tryd.ntmps82
 go_wp2
 go_loopg [5, 6, 7] k (fun kq v5 v6 v7 w' => ∃ (x5_1 : List Int) (x6_1 : Int) (x7_1 : Int), v6 = .int .u64 x6_1 ∧ v7 = .int .i64 x7_1 ∧ Aside0 (attestorref02_diff.l0 kq l0 l1 x5_1 x6_1 x7_1 = some r) ∧ Aside0 (kq ≤ k) ∧ Aside0 (Kd.R (Kd.int .u32) 44 w' w.heap.size (fun _ => True) v5 x5_1) ∧ Aside0 (Below w.heap.size w w'))
 case atStart => exact ⟨(([] : List Int)), (0), (0), gb_, gb_, H', ⟨Nat.le_refl _⟩, ⟨by first | exact Kd.R_nil _ _ _ _ _ | exact Kd.N_nil _ _ _ _ _ | exact Kd.V_nil _ _ _ _ _ | exact Kd.Q_nil _ _ _ _ _ | exact Kd.S_nil _ _ _ _ _⟩, ⟨bU_ HB.out⟩⟩
 case round =>
  clear H'
  (try clear c1); (try clear p2)
  obtain ⟨x5_1, x6_1, x7_1, rfl, rfl, HA, HK1, HO_5, HB⟩ := hrel
  cases gk with
  | zero => exact absurd HA.out (by simp [attestorref02_diff.l0])
  | succ k1 =>
   have H := HA.out
   clear HA
   simp only [attestorref02_diff.l0] at H
   by_cases c3 : x7_1 < (l0.length : Int)
   ·rw [if_pos c3] at H
    have c3b0 := decide_eq_true c3
    clear c3
    revert H
    refine bd_ fun t1017 A4 H => ?_
    revert H
    refine bd_ fun t1018 A5 H => ?_
    by_cases c6 : t1017 < (IntKind.u64.wrap (t1018 + x6_1))
    ·rw [if_pos c6] at H
     have c6b0 := decide_eq_true c6
     clear c6
     obtain ⟨c7, H⟩ : (x5_1.length < 35184372088832) ∧ _ := it_ H
     have LMc7 := ak c7
     clear c7
     obtain ⟨y1019, hy1019⟩ : ∃ y_ : List Int, y_ = (x5_1 ++ [(IntKind.u64.wrap ((IntKind.u64.wrap (t1017 + 4294967296)) - (IntKind.u64.wrap (t1018 + x6_1)))) % 4294967296]) := ⟨_, rfl⟩
     first | rw [Option.bind_some, ← hy1019] at H | rw [← hy1019] at H
     have Ny1019 := ak hy1019
     clear hy1019
     have H' := ak H
     clear H
     go_wp2_with (first | ((with_reducible refine gate_callee (f := 85) rfl ?_); refine gl_ (some 18) Tryd.func85 #[.slice A0 l0.length c0, .int .i64 x7_1] ?_; (with_reducible refine (attestorref02_limb.calls _ _ l0 x7_1 t1017 _ ?side1 ?side2 A4.out).mono ?_); (case side1 => exact cU_ (C_below HR0.out HB.out)); (case side2 => exact HC0.out); rintro e w' ⟨rfl, ⟨nd, rfl⟩⟩; refine ⟨_, rfl, ?_⟩) | ((with_reducible refine gate_callee (f := 85) rfl ?_); refine gl_ (some 21) Tryd.func85 #[.slice A1 l1.length c1, .int .i64 x7_1] ?_; (with_reducible refine (attestorref02_limb.calls _ _ l1 x7_1 t1018 _ ?side1 ?side2 A5.out).mono ?_); (case side1 => exact (C_below HR1.out (bU_ HB.out))); (case side2 => exact HC1.out); rintro e w' ⟨rfl, ⟨nd, rfl⟩⟩; refine ⟨_, rfl, ?_⟩) | ((with_reducible refine gate_builtin (b := .append) (xs := #[.tmp 29, .tmp 34]) rfl ?_); at_builtin; refine Kd.R_append (Kd.int .u32) (w0 := w) w.heap.size rfl (.tmp 29) (.tmp 34) 23 44 (.int .u32 0) 4 rfl Tryd.underlying23 info44 rfl (by decide) (by omega) u5 x5_1 ((IntKind.u64.wrap ((IntKind.u64.wrap (t1017 + 4294967296)) - (IntKind.u64.wrap (t1018 + x6_1)))) % 4294967296) [.int .u32 ((IntKind.u64.wrap ((IntKind.u64.wrap (t1017 + 4294967296)) - (IntKind.u64.wrap (t1018 + x6_1)))) % 4294967296)] (fun _ => True) (fun _ => False) rfl rfl ?aP (fun _ hk => hk.elim) ?aF ?aO ?aB ?aS ?aL ?_; (case aP => exact rfl); (case aB => exact (bU_ HB.out)); (case aF => exact (fun _ _ => trivial)); (case aO => exact (rU_ HO_5.out)); (case aS => exact (below_size (bU_ HB.out))); (case aL => have := LMc7.out; omega); intro v1020 w8 ho hb hg hat; rw [← Ny1019.out] at ho; refine nx2_ (hb) (ho) ?_; clear HB HO_5; intro HB HO1021; clear ho hb hg hat))
     go_roundg k1
     case measure => have := HK1.out; omega
     case rel => exact ⟨(y1019), (1), (wrap64 (x7_1 + 1)), gb_, gb_, H', ⟨by have := HK1.out; omega⟩, ⟨rU_ HO1021.out⟩, ⟨bU_ HB.out⟩⟩
    ·rw [if_neg c6] at H
     have c6b0 := decide_eq_false c6
     clear c6
     obtain ⟨c9, H⟩ : (x5_1.length < 35184372088832) ∧ _ := it_ H
     have LMc9 := ak c9
     clear c9
     obtain ⟨y1022, hy1022⟩ : ∃ y_ : List Int, y_ = (x5_1 ++ [(IntKind.u64.wrap (t1017 - (IntKind.u64.wrap (t1018 + x6_1)))) % 4294967296]) := ⟨_, rfl⟩
     first | rw [Option.bind_some, ← hy1022] at H | rw [← hy1022] at H
     have Ny1022 := ak hy1022
     clear hy1022
     have H' := ak H
     clear H
     go_wp2_with (first | ((with_reducible refine gate_callee (f := 85) rfl ?_); refine gl_ (some 18) Tryd.func85 #[.slice A0 l0.length c0, .int .i64 x7_1] ?_; (with_reducible refine (attestorref02_limb.calls _ _ l0 x7_1 t1017 _ ?side1 ?side2 A4.out).mono ?_); (case side1 => exact cU_ (C_below HR0.out HB.out)); (case side2 => exact HC0.out); rintro e w' ⟨rfl, ⟨nd, rfl⟩⟩; refine ⟨_, rfl, ?_⟩) | ((with_reducible refine gate_callee (f := 85) rfl ?_); refine gl_ (some 21) Tryd.func85 #[.slice A1 l1.length c1, .int .i64 x7_1] ?_; (with_reducible refine (attestorref02_limb.calls _ _ l1 x7_1 t1018 _ ?side1 ?side2 A5.out).mono ?_); (case side1 => exact (C_below HR1.out (bU_ HB.out))); (case side2 => exact HC1.out); rintro e w' ⟨rfl, ⟨nd, rfl⟩⟩; refine ⟨_, rfl, ?_⟩) | ((with_reducible refine gate_builtin (b := .append) (xs := #[.tmp 29, .tmp 34]) rfl ?_); at_builtin; refine Kd.R_append (Kd.int .u32) (w0 := w) w.heap.size rfl (.tmp 29) (.tmp 34) 23 44 (.int .u32 0) 4 rfl Tryd.underlying23 info44 rfl (by decide) (by omega) u5 x5_1 ((IntKind.u64.wrap (t1017 - (IntKind.u64.wrap (t1018 + x6_1)))) % 4294967296) [.int .u32 ((IntKind.u64.wrap (t1017 - (IntKind.u64.wrap (t1018 + x6_1)))) % 4294967296)] (fun _ => True) (fun _ => False) rfl rfl ?aP (fun _ hk => hk.elim) ?aF ?aO ?aB ?aS ?aL ?_; (case aP => exact rfl); (case aB => exact (bU_ HB.out)); (case aF => exact (fun _ _ => trivial)); (case aO => exact (rU_ HO_5.out)); (case aS => exact (below_size (bU_ HB.out))); (case aL => have := LMc9.out; omega); intro v1023 w10 ho hb hg hat; rw [← Ny1022.out] at ho; refine nx2_ (hb) (ho) ?_; clear HB HO_5; intro HB HO1024; clear ho hb hg hat))
     go_roundg k1
     case measure => have := HK1.out; omega
     case rel => exact ⟨(y1022), (0), (wrap64 (x7_1 + 1)), gb_, gb_, H', ⟨by have := HK1.out; omega⟩, ⟨rU_ HO1024.out⟩, ⟨bU_ HB.out⟩⟩
   ·rw [if_neg c3] at H
    have c3b0 := decide_eq_false c3
    clear c3
    revert H
    refine bd_ fun t1014 A11 H => ?_
    obtain rfl := Option.some.inj H
    obtain ⟨Ao12, co12, eo12⟩ := R_slice HO_5.out
    subst eo12
    go_wp2_with (first | ((with_reducible refine gate_callee (f := 69) rfl ?_); refine gl_ (some 37) Tryd.func69 #[.slice Ao12 x5_1.length co12] ?_; (with_reducible refine (attestorref02_trim.calls k1 _ _ x5_1 t1014 _ ?side1 ?side2 A11.out).mono ?_); (case side1 => exact cU_ ((R_reads' HO_5.out).2.2)); (case side2 => exact (R_reads' HO_5.out).2.1); rintro e w13 ⟨v1015, rfl, ho0, hb⟩; refine ⟨_, rfl, ?_⟩; refine nx3_ (R_elder' (rU_ HO_5.out) (R_base ho0) hb) (R_lower (R_new' ho0 (R_lt (rU_ HO_5.out))) (below_size (bU_ HB.out))) (below_step (bU_ HB.out) hb) ?_; clear HO_5 HB; intro HO_5 HO1016 HB; clear hb ho0))
    go_ret
    exact ⟨_, eW_, R_mono (rU_ HO1016.out) (fun _ hk => trivial), bU_ HB.out⟩

def attestorref02_even.f (l0 : List Int) : Option (Bool) := if (l0.length : Int) = 0 then (some true) else (if 0 < (l0.length : Int) then (some ((Int.tmod (rd l0 0) 2) == 0)) else (none))
set_option maxHeartbeats 8000000 in
set_option maxRecDepth 100000 in
theorem attestorref02_even.calls (A0 : Option Addr) (c0 : Nat) (l0 : List Int) (r : Bool) (w : World) (hr0 : Kd.C (Kd.int .u32) w A0 l0.length l0) (hc0 : l0.length ≤ c0) (h : attestorref02_even.f l0 = some r) :
  Calls Tryd.prog 93 #[.slice A0 l0.length c0] w fun e w' => e = .returned (.bool r) ∧ Drawn0 w w' := by
 have HR0 := ak hr0
 have HC0 := ak hc0
 clear hr0 hc0
 have H := h
 clear h
 unfold attestorref02_even.f at H
 by_cases c2 : (l0.length : Int) = 0
 ·rw [if_pos c2] at H
  have c2b0 := beq_iff_eq.mpr c2
  have c2b1 := bne_eq_false_iff_eq.mpr c2
  clear c2
  obtain rfl := Option.some.inj H
  go_enter Tryd.func93, Tryd.ntmps93
  go_wp2
  go_ret
  exact ⟨by first | rfl | (simp; done) | (simp [*]; done), by repeat (first | exact Drawn0.refl _ | apply Drawn0.step)⟩
 ·rw [if_neg c2] at H
  have c2b0 := beq_eq_false_iff_ne.mpr c2
  have c2b1 := bne_iff_ne.mpr c2
  have c2b2 : ¬ (l0 = []) := fun h_ => c2 (by rw [h_]; rfl)
  obtain ⟨c3, H⟩ : (0 < (l0.length : Int)) ∧ _ := it_ H
  have c3b0 := decide_eq_true c3
  have c3b1 : decide (0 < l0.length) = true := decide_eq_true (by omega)
  clear c3
  obtain rfl := Option.some.inj H
  have p1025 : 0 ≤ (0 : Int) := (by omega)
  have q1025 : 0 < (l0.length : Int) := od_
  obtain ⟨ad1025, e1025, hx1025_0⟩ := Kd.at_int HR0.out 0 p1025 q1025
  cases e1025
  have qi1025 : (0 < l0.length) = True := eq_true (by omega)
  (try rw [show ((0 : Int)).toNat = 0 from rfl] at hx1025_0)
  (try rw [Addr.add_zero'] at hx1025_0)
  replace p1025 := eq_true p1025
  replace q1025 := eq_true q1025
  go_enter Tryd.func93, Tryd.ntmps93
  go_wp2
  go_ret
  exact ⟨by first | rfl | (simp; done) | (simp [*]; done), by repeat (first | exact Drawn0.refl _ | apply Drawn0.step)⟩

def attestorref02_half.l0 : Nat → List Int → List Int → Int → Int → Option (List Int)
 | 0, _, _, _, _ => none
 | k + 1, x0, x3, x4, x5 => if x5 ≥ 0 then (if 0 ≤ x5 then (if x5 < (x0.length : Int) then (if x5 < (x3.length : Int) then (attestorref02_half.l0 k x0 (x3.set (x5 : Int).toNat ((((Int.tdiv (rd x0 x5) 2) % 4294967296) + x4) % 4294967296)) (((Int.tmod (rd x0 x5) 2) * 2147483648) % 4294967296) (wrap64 (x5 - 1))) else (none)) else (none)) else (none)) else ((attestorref02_trim.f k x3).bind fun t1032 => (some t1032))
def attestorref02_half.f (k : Nat) (l0 : List Int) : Option (List Int) := if 0 ≤ (l0.length : Int) then (if ((l0.length : Int) : Int).toNat ≤ 70368744177664 then (attestorref02_half.l0 k l0 (List.replicate ((l0.length : Int) : Int).toNat 0) 0 (wrap64 ((l0.length : Int) - 1))) else (none)) else (none)
set_option maxHeartbeats 8000000 in
set_option maxRecDepth 100000 in
theorem attestorref02_half.calls (k : Nat) (A0 : Option Addr) (c0 : Nat) (l0 : List Int) (r : List Int) (w : World) (hr0 : Kd.C (Kd.int .u32) w A0 l0.length l0) (hc0 : l0.length ≤ c0) (h : attestorref02_half.f k l0 = some r) :
  Calls Tryd.prog 94 #[.slice A0 l0.length c0] w fun e w' => ∃ v0_ : Value, e = .returned (v0_) ∧ Kd.R (Kd.int .u32) 44 w' w.heap.size (fun _ => True) v0_ r ∧ Below w.heap.size w w' := by
 have HR0 := ak hr0
 have HC0 := ak hc0
 clear hr0 hc0
 have HB := ak (Below.refl w.heap.size w)
 have H := h
 clear h
 unfold attestorref02_half.f at H
 obtain ⟨c2, H⟩ : (0 ≤ (l0.length : Int)) ∧ _ := it_ H
 have c2b0 := eq_true c2
 have c2b1 := decide_eq_true c2
 clear c2
 obtain ⟨c3, H⟩ : (((l0.length : Int) : Int).toNat ≤ 70368744177664) ∧ _ := it_ H
 have c3b0 := eq_true c3
 have c3b1 := decide_eq_true c3
 clear c3
 obtain ⟨y1026, hy1026⟩ : ∃ y_ : List Int, y_ = (List.replicate ((l0.length : Int) : Int).toNat 0) := ⟨_, rfl⟩
 first | rw [Option.bind_some, ← hy1026] at H | rw [← hy1026] at H
 have Ny1026 := ak hy1026
 clear hy1026
 have H' := ak H
 clear H
 go_enter Tryd.func94, Tryd.ntmps94
 go_wp2_with (first | ((with_reducible refine gate_dst (N := 8) rfl ?_); refine R_make (Kd.int .u32) _ 44 rfl (N := 8) rfl 23 _ _ rfl (l0.length : Int) ?hx ?hy Tryd.underlying23 (.int .u32 0) 4 info44 rfl (by decide) (by omega) 0 (ok := fun _ => True) (okp := fun _ => True) rfl (fun _ hk => hk) trivial od_ (Nat.le_trans (Nat.mul_le_mul_right _ (od_ : (l0.length : Int).toNat ≤ 70368744177664)) (by omega)) (Below.refl _ _) (Nat.le_refl _) ?_; (case hx => first | rfl); (case hy => first | rfl); intro v1027 w4 ho5 hb hg_ hnew_; clear hg_ hnew_; (first | rw [← Ny1026.out] at ho5 | (simp only [Int.reduceToNat] at ho5; rw [← Ny1026.out] at ho5)); refine nx2_ (R_lower ho5 (below_size (bU_ HB.out))) (below_step (bU_ HB.out) hb) ?_; clear HB; intro HO1028 HB; clear hb ho5))
 go_loopg [4, 5] k (fun kq v4 v5 w' => ∃ (x3_1 : List Int) (x4_1 : Int) (x5_1 : Int), v4 = .int .u32 x4_1 ∧ v5 = .int .i64 x5_1 ∧ Aside0 (attestorref02_half.l0 kq l0 x3_1 x4_1 x5_1 = some r) ∧ Aside0 (kq ≤ k) ∧ Aside0 (Kd.R (Kd.int .u32) 44 w' w.heap.size (fun _ => True) v1027 x3_1) ∧ Aside0 (Below w.heap.size w w'))
 case atStart => exact ⟨(y1026), (0), (wrap64 ((l0.length : Int) - 1)), gb_, gb_, H', ⟨Nat.le_refl _⟩, ⟨rU_ HO1028.out⟩, ⟨bU_ HB.out⟩⟩
 case round =>
  clear H'
  (try clear c2); (try clear c2b0); (try clear c2b1); (try clear p2); (try clear c3); (try clear c3b0); (try clear c3b1)
  obtain ⟨x3_1, x4_1, x5_1, rfl, rfl, HA, HK1, HO_3, HB⟩ := hrel
  cases gk with
  | zero => exact absurd HA.out (by simp [attestorref02_half.l0])
  | succ k1 =>
   have H := HA.out
   clear HA
   simp only [attestorref02_half.l0] at H
   by_cases c6 : x5_1 ≥ 0
   ·rw [if_pos c6] at H
    have c6b0 : decide (0 ≤ x5_1) = true := decide_eq_true c6
    clear c6
    obtain ⟨c7, H⟩ : (0 ≤ x5_1) ∧ _ := it_ H
    have c7b0 := decide_eq_true c7
    clear c7
    obtain ⟨c8, H⟩ : (x5_1 < (l0.length : Int)) ∧ _ := it_ H
    have c8b0 := decide_eq_true c8
    clear c8
    obtain ⟨c9, H⟩ : (x5_1 < (x3_1.length : Int)) ∧ _ := it_ H
    have c9b0 := decide_eq_true c9
    clear c9
    obtain ⟨y1030, hy1030⟩ : ∃ y_ : List Int, y_ = (x3_1.set (x5_1 : Int).toNat ((((Int.tdiv (rd l0 x5_1) 2) % 4294967296) + x4_1) % 4294967296)) := ⟨_, rfl⟩
    first | rw [Option.bind_some, ← hy1030] at H | rw [← hy1030] at H
    have Ny1030 := ak hy1030
    clear hy1030
    have H' := ak H
    clear H
    have p1029 : 0 ≤ (x5_1 : Int) := od_
    have q1029 : x5_1 < (l0.length : Int) := od_
    obtain ⟨ad1029, e1029, hx1029_0⟩ := Kd.at_int HR0.out x5_1 p1029 q1029
    cases e1029
    replace hx1029_0 := (HB.out.cell (World.block_lt_of_cell? w _ hx1029_0)).trans hx1029_0
    replace p1029 := eq_true p1029
    replace q1029 := eq_true q1029
    have p10 : 0 ≤ (x5_1 : Int) := od_
    have q10 : (x5_1 : Int) < ((x3_1.length : Int) : Int) := od_
    obtain ⟨go10, co10, eo10, gb10, gl10, cl10, HG10⟩ := Kd.R_form HO_3.out (by omega)
    (first | cases eo10 | (injection eo10 with ea_ en_ ec_; (first | subst ea_ | (injection ea_ with ea_; subst ea_)); subst ec_; clear en_))
    have GB10 := ak gb10
    have GG10 := ak HG10
    clear gb10 gl10 HG10
    obtain ⟨hx10_0, hf10_0⟩ := Kd.R_celln 0 HO_3.out (x5_1 : Int) p10 q10
    replace p10 := eq_true p10
    replace q10 := eq_true q10
    have HP11 := Kd.R_putg HO_3.out (x5_1 : Int) ((((Int.tdiv (rd l0 x5_1) 2) % 4294967296) + x4_1) % 4294967296)
    go_wp2_with (first | ((with_reducible refine gate_store (t := 44) (p := 25) rfl ?_); refine store_event (t := 44) (p := 25) (v := ?vo_w12) (w1 := (wr.setCell ⟨go10, (x5_1 : Int).toNat, none⟩ (.int .u32 ((((Int.tdiv (rd l0 x5_1) 2) % 4294967296) + x4_1) % 4294967296)))) ?hg ?ho ?hn ?hr ?_; (case ho => rfl); (case hg => rfl); (case hn => rfl); (case hr => first | (go_simp; done) | (go_simp; rfl)); intro w12 hw; have hg : wr.grownBy w12 (some go10) := (by rw [hw]; exact HP11.2); have hp_ : Kd.R (Kd.int .u32) 44 w12 w.heap.size (fun _ => True) (.slice (some ⟨go10, 0, none⟩) x3_1.length co10) y1030 := (by rw [hw, Ny1030.out]; exact HP11.1); clear HP11; refine nx2_ (hp_) ((by rw [hw]; exact below_set (HB.out) GB10.out : Below w.heap.size w w12)) ?_; clear HO_3 HB; intro HO_3 HB; clear hg hw hp_; have p1031 : 0 ≤ (x5_1 : Int) := od_; have q1031 : x5_1 < (l0.length : Int) := od_; obtain ⟨ad1031, e1031, hx1031_0⟩ := Kd.at_int HR0.out x5_1 p1031 q1031; obtain rfl : ad1029 = ad1031 := (by injection e1031); replace hx1031_0 := (HB.out.cell (World.block_lt_of_cell? w _ hx1031_0)).trans hx1031_0; replace p1031 := eq_true p1031; replace q1031 := eq_true q1031))
    go_roundg k1
    case measure => have := HK1.out; omega
    case rel => exact ⟨(y1030), (((Int.tmod (rd l0 x5_1) 2) * 2147483648) % 4294967296), (wrap64 (x5_1 - 1)), gb_, gb_, H', ⟨by have := HK1.out; omega⟩, ⟨rU_ HO_3.out⟩, ⟨bU_ HB.out⟩⟩
   ·rw [if_neg c6] at H
    have c6b0 : decide (0 ≤ x5_1) = false := decide_eq_false c6
    clear c6
    revert H
    refine bd_ fun t1032 A13 H => ?_
    obtain rfl := Option.some.inj H
    obtain ⟨Ao14, co14, eo14⟩ := R_slice HO_3.out
    subst eo14
    go_wp2_with (first | ((with_reducible refine gate_callee (f := 69) rfl ?_); refine gl_ (some 33) Tryd.func69 #[.slice Ao14 x3_1.length co14] ?_; (with_reducible refine (attestorref02_trim.calls k1 _ _ x3_1 t1032 _ ?side1 ?side2 A13.out).mono ?_); (case side1 => exact cU_ ((R_reads' HO_3.out).2.2)); (case side2 => exact (R_reads' HO_3.out).2.1); rintro e w15 ⟨v1033, rfl, ho0, hb⟩; refine ⟨_, rfl, ?_⟩; refine nx3_ (R_elder' (rU_ HO_3.out) (R_base ho0) hb) (R_lower (R_new' ho0 (R_lt (rU_ HO_3.out))) (below_size (bU_ HB.out))) (below_step (bU_ HB.out) hb) ?_; clear HO_3 HB; intro HO_3 HO1034 HB; clear hb ho0))
    go_ret
    exact ⟨_, eW_, R_mono (rU_ HO1034.out) (fun _ hk => trivial), bU_ HB.out⟩

mutual
def attestorref02_gcd.l0 : Nat → List Int → List Int → Int → Option (List Int)
 | 0, _, _, _ => none
 | k + 1, x0, x1, x5 => (attestorref02_even.f x0).bind fun t1041 => (if t1041 = true then ((attestorref02_even.f x1).bind fun t1042 => (attestorref02_gcd.j1 k x0 x1 x5 t1042)) else (attestorref02_gcd.j1 k x0 x1 x5 false))
def attestorref02_gcd.j1 : Nat → List Int → List Int → Int → Bool → Option (List Int)
 | 0, _, _, _, _ => none
 | k + 1, x0, x1, x5, x22 => if x22 = true then ((attestorref02_half.f k x0).bind fun t1043 => ((attestorref02_half.f k x1).bind fun t1046 => (attestorref02_gcd.l0 k t1043 t1046 (wrap64 (x5 + 1))))) else (attestorref02_gcd.l1 k x0 x1 x5)
def attestorref02_gcd.l1 : Nat → List Int → List Int → Int → Option (List Int)
 | 0, _, _, _ => none
 | k + 1, x0, x1, x5 => if (x0.length : Int) > 0 then (attestorref02_gcd.l2 k x0 x1 x5) else (attestorref02_gcd.l4 k x1 x5 0)
def attestorref02_gcd.l2 : Nat → List Int → List Int → Int → Option (List Int)
 | 0, _, _, _ => none
 | k + 1, x0, x1, x5 => (attestorref02_even.f x0).bind fun t1049 => (if t1049 = true then ((attestorref02_half.f k x0).bind fun t1050 => (attestorref02_gcd.l2 k t1050 x1 x5)) else (attestorref02_gcd.l3 k x0 x1 x5))
def attestorref02_gcd.l3 : Nat → List Int → List Int → Int → Option (List Int)
 | 0, _, _, _ => none
 | k + 1, x0, x1, x5 => (attestorref02_even.f x1).bind fun t1053 => (if t1053 = true then ((attestorref02_half.f k x1).bind fun t1054 => (attestorref02_gcd.l3 k x0 t1054 x5)) else ((attestorref02_order.f k x0 x1).bind fun t1057 => (if t1057 < 0 then ((attestorref02_diff.f k x1 x0).bind fun t1058 => (attestorref02_gcd.l1 k t1058 x0 x5)) else ((attestorref02_diff.f k x0 x1).bind fun t1061 => (attestorref02_gcd.l1 k t1061 x1 x5)))))
def attestorref02_gcd.l4 : Nat → List Int → Int → Int → Option (List Int)
 | 0, _, _, _ => none
 | k + 1, x1, x5, x6 => if x6 < x5 then ((attestorref02_sum.f k x1 x1).bind fun t1064 => (attestorref02_gcd.l4 k t1064 x5 (wrap64 (x6 + 1)))) else ((attestorref02_trim.f k x1).bind fun t1067 => (some t1067))
end
def attestorref02_gcd.f (k : Nat) (l0 : List Int) (l1 : List Int) : Option (List Int) := if (l0.length : Int) = 0 then ((attestorref02_trim.f k l1).bind fun t1035 => (some t1035)) else (if (l1.length : Int) = 0 then ((attestorref02_trim.f k l0).bind fun t1038 => (some t1038)) else (attestorref02_gcd.l0 k l0 l1 0))
set_option maxHeartbeats 8000000 in
set_option maxRecDepth 100000 in
theorem attestorref02_gcd.calls (k : Nat) (P0_ : Nat → Prop) (A0 : Option Addr) (c0 : Nat) (l0 : List Int) (P1_ : Nat → Prop) (A1 : Option Addr) (c1 : Nat) (l1 : List Int) (r : List Int) (w : World) (hs0 : Kd.V (Kd.int .u32) 44 w w.heap.size (fun k_ => P0_ k_) (.slice A0 l0.length c0) l0) (hs1 : Kd.V (Kd.int .u32) 44 w w.heap.size (fun k_ => P1_ k_) (.slice A1 l1.length c1) l1) (h : attestorref02_gcd.f k l0 l1 = some r) :
  Calls Tryd.prog 79 #[.slice A0 l0.length c0, .slice A1 l1.length c1] w fun e w' => ∃ v0_ : Value, e = .returned (v0_) ∧ Kd.R (Kd.int .u32) 44 w' w.heap.size (fun k_ => (w.heap.size ≤ k_)) v0_ r ∧ Below w.heap.size w w' := by
 have HO0 := ak (show Kd.V (Kd.int .u32) 44 w w.heap.size (fun k_ => ((P0_ k_ ∨ P1_ k_) ∨ w.heap.size ≤ k_)) (.slice A0 l0.length c0) l0 from V_mono hs0 (fun k_ hk => .inl (.inl hk)))
 have HO1 := ak (show Kd.V (Kd.int .u32) 44 w w.heap.size (fun k_ => ((P0_ k_ ∨ P1_ k_) ∨ w.heap.size ≤ k_)) (.slice A1 l1.length c1) l1 from V_mono hs1 (fun k_ hk => .inl (.inr hk)))
 have HB := ak (Below.refl w.heap.size w)
 have H := h
 clear h
 unfold attestorref02_gcd.f at H
 by_cases c3 : (l0.length : Int) = 0
 ·rw [if_pos c3] at H
  have c3b0 := beq_iff_eq.mpr c3
  have c3b1 := bne_eq_false_iff_eq.mpr c3
  clear c3
  revert H
  refine bd_ fun t1035 A4 H => ?_
  obtain rfl := Option.some.inj H
  go_enter Tryd.func79, Tryd.ntmps79
  go_wp2_with (first | ((with_reducible refine gate_callee (f := 69) rfl ?_); refine gl_ (some 11) Tryd.func69 #[.slice A1 l1.length c1] ?_; (with_reducible refine (attestorref02_trim.calls k _ _ l1 t1035 _ ?side1 ?side2 A4.out).mono ?_); (case side1 => exact cU_ ((V_reads' HO1.out).2.2)); (case side2 => exact (V_reads' HO1.out).2.1); rintro e w5 ⟨v1036, rfl, ho0, hb⟩; refine ⟨_, rfl, ?_⟩; refine nx4_ (V_elder' (vU_ HO0.out) (R_base ho0) hb) (V_elder' (vU_ HO1.out) (R_base ho0) hb) (R_lower (R_newM (M := fun k_ => (w.heap.size ≤ k_)) ho0 (below_size (bU_ HB.out)) (fun k_ h_ => h_)) (below_size (bU_ HB.out))) (below_step (bU_ HB.out) hb) ?_; clear HO0 HO1 HB; intro HO0 HO1 HO1037 HB; clear hb ho0))
  go_ret
  exact ⟨_, eW_, R_mono (rU_ HO1037.out) (fun _ hk => hk.1), bU_ HB.out⟩
 ·rw [if_neg c3] at H
  have c3b0 := beq_eq_false_iff_ne.mpr c3
  have c3b1 := bne_iff_ne.mpr c3
  have c3b2 : ¬ (l0 = []) := fun h_ => c3 (by rw [h_]; rfl)
  by_cases c6 : (l1.length : Int) = 0
  ·rw [if_pos c6] at H
   have c6b0 := beq_iff_eq.mpr c6
   have c6b1 := bne_eq_false_iff_eq.mpr c6
   clear c6
   revert H
   refine bd_ fun t1038 A7 H => ?_
   obtain rfl := Option.some.inj H
   go_enter Tryd.func79, Tryd.ntmps79
   go_wp2_with (first | ((with_reducible refine gate_callee (f := 69) rfl ?_); refine gl_ (some 16) Tryd.func69 #[.slice A0 l0.length c0] ?_; (with_reducible refine (attestorref02_trim.calls k _ _ l0 t1038 _ ?side1 ?side2 A7.out).mono ?_); (case side1 => exact cU_ ((V_reads' HO0.out).2.2)); (case side2 => exact (V_reads' HO0.out).2.1); rintro e w8 ⟨v1039, rfl, ho0, hb⟩; refine ⟨_, rfl, ?_⟩; refine nx4_ (V_elder' (vU_ HO0.out) (R_base ho0) hb) (V_elder' (vU_ HO1.out) (R_base ho0) hb) (R_lower (R_newM (M := fun k_ => (w.heap.size ≤ k_)) ho0 (below_size (bU_ HB.out)) (fun k_ h_ => h_)) (below_size (bU_ HB.out))) (below_step (bU_ HB.out) hb) ?_; clear HO0 HO1 HB; intro HO0 HO1 HO1040 HB; clear hb ho0))
   go_ret
   exact ⟨_, eW_, R_mono (rU_ HO1040.out) (fun _ hk => hk.1), bU_ HB.out⟩
  ·rw [if_neg c6] at H
   have c6b0 := beq_eq_false_iff_ne.mpr c6
   have c6b1 := bne_iff_ne.mpr c6
   have c6b2 : ¬ (l1 = []) := fun h_ => c6 (by rw [h_]; rfl)
   have H' := ak H
   clear H
   go_enter Tryd.func79, Tryd.ntmps79
   go_wp2
   go_loopg [0, 1, 5] k (fun kq v0 v1 v5 w' => ∃ (x0_1 : List Int) (x1_1 : List Int) (x5_1 : Int), v5 = .int .i64 x5_1 ∧ Aside0 (attestorref02_gcd.l0 kq x0_1 x1_1 x5_1 = some r) ∧ Aside0 (kq ≤ k) ∧ Aside0 (Kd.V (Kd.int .u32) 44 w' w.heap.size (fun k_ => ((P0_ k_ ∨ P1_ k_) ∨ w.heap.size ≤ k_)) v0 x0_1) ∧ Aside0 (Kd.V (Kd.int .u32) 44 w' w.heap.size (fun k_ => ((P0_ k_ ∨ P1_ k_) ∨ w.heap.size ≤ k_)) v1 x1_1) ∧ Aside0 (Below w.heap.size w w'))
   case atStart => exact ⟨(l0), (l1), (0), gb_, H', ⟨Nat.le_refl _⟩, ⟨vU_ HO0.out⟩, ⟨vU_ HO1.out⟩, ⟨bU_ HB.out⟩⟩
   case round =>
    clear H'
    (try clear c1); (try clear p2); (try clear c3); (try clear c3b0); (try clear c3b1); (try clear c3b2); (try clear c6); (try clear c6b0); (try clear c6b1); (try clear c6b2); (try clear c7)
    obtain ⟨x0_1, x1_1, x5_1, rfl, HA, HK1, HO_0, HO_1, HB⟩ := hrel
    cases gk with
    | zero => exact absurd HA.out (by simp [attestorref02_gcd.l0])
    | succ k1 =>
     have H := HA.out
     clear HA
     simp only [attestorref02_gcd.l0] at H
     have HC9 := ak H
     clear H
     go_upto_region 6 with (fail)
     go_cut [22] (fun v22 wc => ∃ (kq : Nat) (x22_8 : Bool), v22 = .bool x22_8 ∧ Aside0 (attestorref02_gcd.j1 kq x0_1 x1_1 x5_1 x22_8 = some r) ∧ Aside0 (kq ≤ k1) ∧ Aside0 (Kd.V (Kd.int .u32) 44 wc w.heap.size (fun k_ => ((P0_ k_ ∨ P1_ k_) ∨ w.heap.size ≤ k_)) u0 x0_1) ∧ Aside0 (Kd.V (Kd.int .u32) 44 wc w.heap.size (fun k_ => ((P0_ k_ ∨ P1_ k_) ∨ w.heap.size ≤ k_)) u1 x1_1) ∧ Aside0 (Below w.heap.size w wc))
     case first =>
      have H := HC9.out
      clear HC9
      revert H
      refine bd_ fun t1041 A10 H => ?_
      by_cases c11 : t1041 = true
      ·subst c11
       rw [if_pos rfl] at H
       revert H
       refine bd_ fun t1042 A12 H => ?_
       have H' := ak H
       clear H
       obtain ⟨Ao13, co13, eo13⟩ := V_slice HO_0.out
       subst eo13
       go_wp2_with (first | ((with_reducible refine gate_callee (f := 93) rfl ?_); refine gl_ (some 18) Tryd.func93 #[.slice Ao13 x0_1.length co13] ?_; (with_reducible refine (attestorref02_even.calls _ _ x0_1 true _ ?side1 ?side2 A10.out).mono ?_); (case side1 => exact cU_ ((V_reads' HO_0.out).2.2)); (case side2 => exact (V_reads' HO_0.out).2.1); rintro e w' ⟨rfl, ⟨nd, rfl⟩⟩; refine ⟨_, rfl, ?_⟩; obtain ⟨Ao14, co14, eo14⟩ := V_slice HO_1.out; subst eo14) | (go_at_call 93; (with_reducible refine (attestorref02_even.calls _ _ x1_1 t1042 _ ?side1 ?side2 A12.out).mono ?_); (case side1 => exact cU_ ((V_reads' HO_1.out).2.2)); (case side2 => exact (V_reads' HO_1.out).2.1); rintro e w' ⟨rfl, ⟨nd, rfl⟩⟩))
       go_meet
       case rel => exact ⟨_, (t1042), gb_, H', ⟨by have := HK1.out; first | omega | exact Nat.le_refl _⟩, ⟨vU_ HO_0.out⟩, ⟨vU_ HO_1.out⟩, ⟨bU_ HB.out⟩⟩
      ·replace c11 := Bool.eq_false_iff.mpr c11
       subst c11
       rw [if_neg (show ¬ (false = true) by decide)] at H
       have H' := ak H
       clear H
       obtain ⟨Ao15, co15, eo15⟩ := V_slice HO_0.out
       subst eo15
       go_wp2_with (first | ((with_reducible refine gate_callee (f := 93) rfl ?_); refine gl_ (some 18) Tryd.func93 #[.slice Ao15 x0_1.length co15] ?_; (with_reducible refine (attestorref02_even.calls _ _ x0_1 false _ ?side1 ?side2 A10.out).mono ?_); (case side1 => exact cU_ ((V_reads' HO_0.out).2.2)); (case side2 => exact (V_reads' HO_0.out).2.1); rintro e w' ⟨rfl, ⟨nd, rfl⟩⟩; refine ⟨_, rfl, ?_⟩))
       go_meet
       case rel => exact ⟨_, (false), gb_, H', ⟨by have := HK1.out; first | omega | exact Nat.le_refl _⟩, ⟨vU_ HO_0.out⟩, ⟨vU_ HO_1.out⟩, ⟨bU_ HB.out⟩⟩
     case rest =>
      clear HC9
      (try clear c1); (try clear p2); (try clear c3); (try clear c3b0); (try clear c3b1); (try clear c3b2); (try clear c6); (try clear c6b0); (try clear c6b1); (try clear c6b2); (try clear c7); (try clear c9); (try clear c11)
      obtain ⟨kq, x22_8, rfl, HA, HJ8, HO_0, HO_1, HB⟩ := hcut
      cases kq with
      | zero => exact absurd HA.out (by simp [attestorref02_gcd.j1])
      | succ kj8 =>
       have H := HA.out
       clear HA
       simp only [attestorref02_gcd.j1] at H
       by_cases c16 : x22_8 = true
       ·subst c16
        rw [if_pos rfl] at H
        revert H
        refine bd_ fun t1043 A17 H => ?_
        revert H
        refine bd_ fun t1046 A18 H => ?_
        have H' := ak H
        clear H
        obtain ⟨Ao19, co19, eo19⟩ := V_slice HO_0.out
        subst eo19
        go_wp2_with (first | ((with_reducible refine gate_callee (f := 94) rfl ?_); refine gl_ (some 24) Tryd.func94 #[.slice Ao19 x0_1.length co19] ?_; (with_reducible refine (attestorref02_half.calls kj8 _ _ x0_1 t1043 _ ?side1 ?side2 A17.out).mono ?_); (case side1 => exact cU_ ((V_reads' HO_0.out).2.2)); (case side2 => exact (V_reads' HO_0.out).2.1); rintro e w20 ⟨v1044, rfl, ho0, hb⟩; refine ⟨_, rfl, ?_⟩; refine nx4_ (V_elder' (vU_ HO_0.out) (R_base ho0) hb) (V_elder' (vU_ HO_1.out) (R_base ho0) hb) (R_lower (R_newM (M := fun k_ => (w.heap.size ≤ k_)) ho0 (below_size (bU_ HB.out)) (fun k_ h_ => h_)) (below_size (bU_ HB.out))) (below_step (bU_ HB.out) hb) ?_; clear HO_0 HO_1 HB; intro HO_0 HO_1 HO1045 HB; clear hb ho0; obtain ⟨Ao21, co21, eo21⟩ := V_slice HO_1.out; subst eo21) | ((with_reducible refine gate_callee (f := 94) rfl ?_); refine gl_ (some 26) Tryd.func94 #[.slice Ao21 x1_1.length co21] ?_; (with_reducible refine (attestorref02_half.calls kj8 _ _ x1_1 t1046 _ ?side1 ?side2 A18.out).mono ?_); (case side1 => exact cU_ ((V_reads' HO_1.out).2.2)); (case side2 => exact (V_reads' HO_1.out).2.1); rintro e w22 ⟨v1047, rfl, ho0, hb⟩; refine ⟨_, rfl, ?_⟩; refine nx5_ (V_elder' (vU_ HO_0.out) (R_base ho0) hb) (V_elder' (vU_ HO_1.out) (R_base ho0) hb) (R_elder' (rU_ HO1045.out) (R_base ho0) hb) (R_lower (R_new' (R_newM (M := fun k_ => (w.heap.size ≤ k_)) ho0 (below_size (bU_ HB.out)) (fun k_ h_ => h_)) (R_lt (rU_ HO1045.out))) (below_size (bU_ HB.out))) (below_step (bU_ HB.out) hb) ?_; clear HO_0 HO_1 HO1045 HB; intro HO_0 HO_1 HO1045 HO1048 HB; clear hb ho0))
        go_roundg kj8
        case measure => have := HK1.out; have := HJ8.out; omega
        case rel => exact ⟨(t1043), (t1046), (wrap64 (x5_1 + 1)), gb_, H', ⟨by have := HK1.out; have := HJ8.out; omega⟩, ⟨V_mono (R_V (R_mono (rU_ HO1045.out) (fun _ hk => hk.1.1))) (fun k_ hk => by first | exact ⟨(.inr (hk.1)), hk.2⟩ | exact (.inr (hk)))⟩, ⟨V_mono (R_V (R_mono (rU_ HO1048.out) (fun _ hk => hk.1.1))) (fun k_ hk => by first | exact ⟨(.inr (hk.1)), hk.2⟩ | exact (.inr (hk)))⟩, ⟨bU_ HB.out⟩⟩
       ·replace c16 := Bool.eq_false_iff.mpr c16
        subst c16
        rw [if_neg (show ¬ (false = true) by decide)] at H
        have H' := ak H
        clear H
        go_wp2
        go_loopg [0, 1] kj8 (fun kq v0 v1 w' => ∃ (x0_3 : List Int) (x1_3 : List Int), Aside0 (attestorref02_gcd.l1 kq x0_3 x1_3 x5_1 = some r) ∧ Aside0 (kq ≤ kj8) ∧ Aside0 (Kd.V (Kd.int .u32) 44 w' w.heap.size (fun k_ => ((P0_ k_ ∨ P1_ k_) ∨ w.heap.size ≤ k_)) v0 x0_3) ∧ Aside0 (Kd.V (Kd.int .u32) 44 w' w.heap.size (fun k_ => ((P0_ k_ ∨ P1_ k_) ∨ w.heap.size ≤ k_)) v1 x1_3) ∧ Aside0 (Below w.heap.size w w'))
        case atStart => exact ⟨(x0_1), (x1_1), H', ⟨Nat.le_refl _⟩, ⟨vU_ HO_0.out⟩, ⟨vU_ HO_1.out⟩, ⟨bU_ HB.out⟩⟩
        case round =>
         clear H'
         (try clear c1); (try clear p2); (try clear c3); (try clear c3b0); (try clear c3b1); (try clear c3b2); (try clear c6); (try clear c6b0); (try clear c6b1); (try clear c6b2); (try clear p6); (try clear c7); (try clear c9); (try clear c11); (try clear c16)
         obtain ⟨x0_3, x1_3, HA, HK3, HO_0, HO_1, HB⟩ := hrel
         cases gk with
         | zero => exact absurd HA.out (by simp [attestorref02_gcd.l1])
         | succ k3 =>
          have H := HA.out
          clear HA
          simp only [attestorref02_gcd.l1] at H
          by_cases c23 : (x0_3.length : Int) > 0
          ·rw [if_pos c23] at H
           have c23b0 : decide (0 < (x0_3.length : Int)) = true := decide_eq_true c23
           have c23b1 : decide (0 < x0_3.length) = true := decide_eq_true (by omega)
           clear c23
           have H' := ak H
           clear H
           obtain ⟨Ao24, co24, eo24⟩ := V_slice HO_0.out
           subst eo24
           go_wp2
           go_loopg [0] k3 (fun kq v0 w' => ∃ (x0_4 : List Int), Aside0 (attestorref02_gcd.l2 kq x0_4 x1_3 x5_1 = some r) ∧ Aside0 (kq ≤ k3) ∧ Aside0 (Kd.V (Kd.int .u32) 44 w' w.heap.size (fun k_ => ((P0_ k_ ∨ P1_ k_) ∨ w.heap.size ≤ k_)) v0 x0_4) ∧ Aside0 (Kd.V (Kd.int .u32) 44 w' w.heap.size (fun k_ => ((P0_ k_ ∨ P1_ k_) ∨ w.heap.size ≤ k_)) u1 x1_3) ∧ Aside0 (Below w.heap.size w w'))
           case atStart => exact ⟨(x0_3), H', ⟨Nat.le_refl _⟩, ⟨vU_ HO_0.out⟩, ⟨vU_ HO_1.out⟩, ⟨bU_ HB.out⟩⟩
           case round =>
            clear H'
            (try clear c1); (try clear c2); (try clear p2); (try clear c3); (try clear c3b0); (try clear c3b1); (try clear c3b2); (try clear c6); (try clear c6b0); (try clear c6b1); (try clear c6b2); (try clear p6); (try clear c7); (try clear c9); (try clear c11); (try clear c16); (try clear c23); (try clear c23b0); (try clear c23b1)
            obtain ⟨x0_4, HA, HK4, HO_0, HO_1, HB⟩ := hrel
            cases gk with
            | zero => exact absurd HA.out (by simp [attestorref02_gcd.l2])
            | succ k4 =>
             have H := HA.out
             clear HA
             simp only [attestorref02_gcd.l2] at H
             revert H
             refine bd_ fun t1049 A25 H => ?_
             by_cases c26 : t1049 = true
             ·subst c26
              rw [if_pos rfl] at H
              revert H
              refine bd_ fun t1050 A27 H => ?_
              have H' := ak H
              clear H
              obtain ⟨Ao28, co28, eo28⟩ := V_slice HO_0.out
              subst eo28
              go_wp2_with (first | ((with_reducible refine gate_callee (f := 93) rfl ?_); refine gl_ (some 33) Tryd.func93 #[.slice Ao28 x0_4.length co28] ?_; (with_reducible refine (attestorref02_even.calls _ _ x0_4 true _ ?side1 ?side2 A25.out).mono ?_); (case side1 => exact cU_ ((V_reads' HO_0.out).2.2)); (case side2 => exact (V_reads' HO_0.out).2.1); rintro e w' ⟨rfl, ⟨nd, rfl⟩⟩; refine ⟨_, rfl, ?_⟩) | ((with_reducible refine gate_callee (f := 94) rfl ?_); refine gl_ (some 35) Tryd.func94 #[.slice Ao28 x0_4.length co28] ?_; (with_reducible refine (attestorref02_half.calls k4 _ _ x0_4 t1050 _ ?side1 ?side2 A27.out).mono ?_); (case side1 => exact cU_ ((V_reads' HO_0.out).2.2)); (case side2 => exact (V_reads' HO_0.out).2.1); rintro e w29 ⟨v1051, rfl, ho0, hb⟩; refine ⟨_, rfl, ?_⟩; refine nx4_ (V_elder' (vU_ HO_0.out) (R_base ho0) hb) (V_elder' (vU_ HO_1.out) (R_base ho0) hb) (R_lower (R_newM (M := fun k_ => (w.heap.size ≤ k_)) ho0 (below_size (bU_ HB.out)) (fun k_ h_ => h_)) (below_size (bU_ HB.out))) (below_step (bU_ HB.out) hb) ?_; clear HO_0 HO_1 HB; intro HO_0 HO_1 HO1052 HB; clear hb ho0))
              go_roundg k4
              case measure => have := HK1.out; have := HJ8.out; have := HK3.out; have := HK4.out; omega
              case rel => exact ⟨(t1050), H', ⟨by have := HK1.out; have := HJ8.out; have := HK3.out; have := HK4.out; omega⟩, ⟨V_mono (R_V (R_mono (rU_ HO1052.out) (fun _ hk => hk.1))) (fun k_ hk => by first | exact ⟨(.inr (hk.1)), hk.2⟩ | exact (.inr (hk)))⟩, ⟨by (with_reducible repeat (first | apply Kd.V_alloc | apply Kd.V_drewN | apply V_drew)); exact V_mono HO_1.out (fun _ hk => hk.1)⟩, ⟨bU_ HB.out⟩⟩
             ·replace c26 := Bool.eq_false_iff.mpr c26
              subst c26
              rw [if_neg (show ¬ (false = true) by decide)] at H
              have H' := ak H
              clear H
              obtain ⟨Ao30, co30, eo30⟩ := V_slice HO_0.out
              subst eo30
              go_wp2_with (first | ((with_reducible refine gate_callee (f := 93) rfl ?_); refine gl_ (some 33) Tryd.func93 #[.slice Ao30 x0_4.length co30] ?_; (with_reducible refine (attestorref02_even.calls _ _ x0_4 false _ ?side1 ?side2 A25.out).mono ?_); (case side1 => exact cU_ ((V_reads' HO_0.out).2.2)); (case side2 => exact (V_reads' HO_0.out).2.1); rintro e w' ⟨rfl, ⟨nd, rfl⟩⟩; refine ⟨_, rfl, ?_⟩))
              try go_simp
              go_loopg [1] k4 (fun kq v1 w' => ∃ (x1_5 : List Int), Aside0 (attestorref02_gcd.l3 kq x0_4 x1_5 x5_1 = some r) ∧ Aside0 (kq ≤ k4) ∧ Aside0 (Kd.V (Kd.int .u32) 44 w' w.heap.size (fun k_ => ((P0_ k_ ∨ P1_ k_) ∨ w.heap.size ≤ k_)) (.slice Ao30 x0_4.length co30) x0_4) ∧ Aside0 (Kd.V (Kd.int .u32) 44 w' w.heap.size (fun k_ => ((P0_ k_ ∨ P1_ k_) ∨ w.heap.size ≤ k_)) v1 x1_5) ∧ Aside0 (Below w.heap.size w w'))
              case atStart => exact ⟨(x1_3), H', ⟨Nat.le_refl _⟩, ⟨vU_ HO_0.out⟩, ⟨vU_ HO_1.out⟩, ⟨bU_ HB.out⟩⟩
              case round =>
               clear H'
               (try clear c1); (try clear c2); (try clear p2); (try clear c3); (try clear c3b0); (try clear c3b1); (try clear c3b2); (try clear c6); (try clear c6b0); (try clear c6b1); (try clear c6b2); (try clear p6); (try clear c7); (try clear c9); (try clear c11); (try clear c16); (try clear c23); (try clear c23b0); (try clear c23b1); (try clear c26)
               obtain ⟨x1_5, HA, HK5, HO_0, HO_1, HB⟩ := hrel
               cases gk with
               | zero => exact absurd HA.out (by simp [attestorref02_gcd.l3])
               | succ k5 =>
                have H := HA.out
                clear HA
                simp only [attestorref02_gcd.l3] at H
                revert H
                refine bd_ fun t1053 A31 H => ?_
                by_cases c32 : t1053 = true
                ·subst c32
                 rw [if_pos rfl] at H
                 revert H
                 refine bd_ fun t1054 A33 H => ?_
                 have H' := ak H
                 clear H
                 obtain ⟨Ao34, co34, eo34⟩ := V_slice HO_1.out
                 subst eo34
                 go_wp2_with (first | ((with_reducible refine gate_callee (f := 93) rfl ?_); refine gl_ (some 37) Tryd.func93 #[.slice Ao34 x1_5.length co34] ?_; (with_reducible refine (attestorref02_even.calls _ _ x1_5 true _ ?side1 ?side2 A31.out).mono ?_); (case side1 => exact cU_ ((V_reads' HO_1.out).2.2)); (case side2 => exact (V_reads' HO_1.out).2.1); rintro e w' ⟨rfl, ⟨nd, rfl⟩⟩; refine ⟨_, rfl, ?_⟩) | ((with_reducible refine gate_callee (f := 94) rfl ?_); refine gl_ (some 39) Tryd.func94 #[.slice Ao34 x1_5.length co34] ?_; (with_reducible refine (attestorref02_half.calls k5 _ _ x1_5 t1054 _ ?side1 ?side2 A33.out).mono ?_); (case side1 => exact cU_ ((V_reads' HO_1.out).2.2)); (case side2 => exact (V_reads' HO_1.out).2.1); rintro e w35 ⟨v1055, rfl, ho0, hb⟩; refine ⟨_, rfl, ?_⟩; refine nx4_ (V_elder' (vU_ HO_0.out) (R_base ho0) hb) (V_elder' (vU_ HO_1.out) (R_base ho0) hb) (R_lower (R_newM (M := fun k_ => (w.heap.size ≤ k_)) ho0 (below_size (bU_ HB.out)) (fun k_ h_ => h_)) (below_size (bU_ HB.out))) (below_step (bU_ HB.out) hb) ?_; clear HO_0 HO_1 HB; intro HO_0 HO_1 HO1056 HB; clear hb ho0))
                 go_roundg k5
                 case measure => have := HK1.out; have := HJ8.out; have := HK3.out; have := HK4.out; have := HK5.out; omega
                 case rel => exact ⟨(t1054), H', ⟨by have := HK1.out; have := HJ8.out; have := HK3.out; have := HK4.out; have := HK5.out; omega⟩, ⟨by (with_reducible repeat (first | apply Kd.V_alloc | apply Kd.V_drewN | apply V_drew)); exact V_mono HO_0.out (fun _ hk => hk.1)⟩, ⟨V_mono (R_V (R_mono (rU_ HO1056.out) (fun _ hk => hk.1))) (fun k_ hk => by first | exact ⟨(.inr (hk.1)), hk.2⟩ | exact (.inr (hk)))⟩, ⟨bU_ HB.out⟩⟩
                ·replace c32 := Bool.eq_false_iff.mpr c32
                 subst c32
                 rw [if_neg (show ¬ (false = true) by decide)] at H
                 revert H
                 refine bd_ fun t1057 A36 H => ?_
                 by_cases c37 : t1057 < 0
                 ·rw [if_pos c37] at H
                  have c37b0 := decide_eq_true c37
                  clear c37
                  revert H
                  refine bd_ fun t1058 A38 H => ?_
                  have H' := ak H
                  clear H
                  obtain ⟨Ao39, co39, eo39⟩ := V_slice HO_1.out
                  subst eo39
                  go_wp2_with (first | ((with_reducible refine gate_callee (f := 93) rfl ?_); refine gl_ (some 37) Tryd.func93 #[.slice Ao39 x1_5.length co39] ?_; (with_reducible refine (attestorref02_even.calls _ _ x1_5 false _ ?side1 ?side2 A31.out).mono ?_); (case side1 => exact cU_ ((V_reads' HO_1.out).2.2)); (case side2 => exact (V_reads' HO_1.out).2.1); rintro e w' ⟨rfl, ⟨nd, rfl⟩⟩; refine ⟨_, rfl, ?_⟩) | ((with_reducible refine gate_callee (f := 80) rfl ?_); refine gl_ (some 42) Tryd.func80 #[.slice Ao30 x0_4.length co30, .slice Ao39 x1_5.length co39] ?_; (with_reducible refine (attestorref02_order.calls k5 _ _ x0_4 _ _ x1_5 t1057 _ ?side1 ?side2 ?side3 ?side4 A36.out).mono ?_); (case side1 => exact cU_ ((V_reads' HO_0.out).2.2)); (case side2 => exact (V_reads' HO_0.out).2.1); (case side3 => exact cU_ ((V_reads' HO_1.out).2.2)); (case side4 => exact (V_reads' HO_1.out).2.1); rintro e w' ⟨rfl, ⟨nd, rfl⟩⟩; refine ⟨_, rfl, ?_⟩) | ((with_reducible refine gate_callee (f := 82) rfl ?_); refine gl_ (some 48) Tryd.func82 #[.slice Ao39 x1_5.length co39, .slice Ao30 x0_4.length co30] ?_; (with_reducible refine (attestorref02_diff.calls k5 _ _ x1_5 _ _ x0_4 t1058 _ ?side1 ?side2 ?side3 ?side4 A38.out).mono ?_); (case side1 => exact cU_ ((V_reads' HO_1.out).2.2)); (case side2 => exact (V_reads' HO_1.out).2.1); (case side3 => exact cU_ ((V_reads' HO_0.out).2.2)); (case side4 => exact (V_reads' HO_0.out).2.1); rintro e w40 ⟨v1059, rfl, ho0, hb⟩; refine ⟨_, rfl, ?_⟩; refine nx4_ (V_elder' (vU_ HO_0.out) (R_base ho0) hb) (V_elder' (vU_ HO_1.out) (R_base ho0) hb) (R_lower (R_newM (M := fun k_ => (w.heap.size ≤ k_)) ho0 (below_size (bU_ HB.out)) (fun k_ h_ => h_)) (below_size (bU_ HB.out))) (below_step (bU_ HB.out) hb) ?_; clear HO_0 HO_1 HB; intro HO_0 HO_1 HO1060 HB; clear hb ho0))
                  go_roundg k5
                  case measure => have := HK1.out; have := HJ8.out; have := HK3.out; have := HK4.out; have := HK5.out; omega
                  case rel => exact ⟨(t1058), (x0_4), H', ⟨by have := HK1.out; have := HJ8.out; have := HK3.out; have := HK4.out; have := HK5.out; omega⟩, ⟨V_mono (R_V (R_mono (rU_ HO1060.out) (fun _ hk => hk.1))) (fun k_ hk => by first | exact ⟨(.inr (hk.1)), hk.2⟩ | exact (.inr (hk)))⟩, ⟨by (with_reducible repeat (first | apply Kd.V_alloc | apply Kd.V_drewN | apply V_drew)); exact V_mono HO_0.out (fun _ hk => hk.1)⟩, ⟨bU_ HB.out⟩⟩
                 ·rw [if_neg c37] at H
                  have c37b0 := decide_eq_false c37
                  clear c37
                  revert H
                  refine bd_ fun t1061 A41 H => ?_
                  have H' := ak H
                  clear H
                  obtain ⟨Ao42, co42, eo42⟩ := V_slice HO_1.out
                  subst eo42
                  go_wp2_with (first | ((with_reducible refine gate_callee (f := 93) rfl ?_); refine gl_ (some 37) Tryd.func93 #[.slice Ao42 x1_5.length co42] ?_; (with_reducible refine (attestorref02_even.calls _ _ x1_5 false _ ?side1 ?side2 A31.out).mono ?_); (case side1 => exact cU_ ((V_reads' HO_1.out).2.2)); (case side2 => exact (V_reads' HO_1.out).2.1); rintro e w' ⟨rfl, ⟨nd, rfl⟩⟩; refine ⟨_, rfl, ?_⟩) | ((with_reducible refine gate_callee (f := 80) rfl ?_); refine gl_ (some 42) Tryd.func80 #[.slice Ao30 x0_4.length co30, .slice Ao42 x1_5.length co42] ?_; (with_reducible refine (attestorref02_order.calls k5 _ _ x0_4 _ _ x1_5 t1057 _ ?side1 ?side2 ?side3 ?side4 A36.out).mono ?_); (case side1 => exact cU_ ((V_reads' HO_0.out).2.2)); (case side2 => exact (V_reads' HO_0.out).2.1); (case side3 => exact cU_ ((V_reads' HO_1.out).2.2)); (case side4 => exact (V_reads' HO_1.out).2.1); rintro e w' ⟨rfl, ⟨nd, rfl⟩⟩; refine ⟨_, rfl, ?_⟩) | ((with_reducible refine gate_callee (f := 82) rfl ?_); refine gl_ (some 48) Tryd.func82 #[.slice Ao30 x0_4.length co30, .slice Ao42 x1_5.length co42] ?_; (with_reducible refine (attestorref02_diff.calls k5 _ _ x0_4 _ _ x1_5 t1061 _ ?side1 ?side2 ?side3 ?side4 A41.out).mono ?_); (case side1 => exact cU_ ((V_reads' HO_0.out).2.2)); (case side2 => exact (V_reads' HO_0.out).2.1); (case side3 => exact cU_ ((V_reads' HO_1.out).2.2)); (case side4 => exact (V_reads' HO_1.out).2.1); rintro e w43 ⟨v1062, rfl, ho0, hb⟩; refine ⟨_, rfl, ?_⟩; refine nx4_ (V_elder' (vU_ HO_0.out) (R_base ho0) hb) (V_elder' (vU_ HO_1.out) (R_base ho0) hb) (R_lower (R_newM (M := fun k_ => (w.heap.size ≤ k_)) ho0 (below_size (bU_ HB.out)) (fun k_ h_ => h_)) (below_size (bU_ HB.out))) (below_step (bU_ HB.out) hb) ?_; clear HO_0 HO_1 HB; intro HO_0 HO_1 HO1063 HB; clear hb ho0))
                  go_roundg k5
                  case measure => have := HK1.out; have := HJ8.out; have := HK3.out; have := HK4.out; have := HK5.out; omega
                  case rel => exact ⟨(t1061), (x1_5), H', ⟨by have := HK1.out; have := HJ8.out; have := HK3.out; have := HK4.out; have := HK5.out; omega⟩, ⟨V_mono (R_V (R_mono (rU_ HO1063.out) (fun _ hk => hk.1))) (fun k_ hk => by first | exact ⟨(.inr (hk.1)), hk.2⟩ | exact (.inr (hk)))⟩, ⟨by (with_reducible repeat (first | apply Kd.V_alloc | apply Kd.V_drewN | apply V_drew)); exact V_mono HO_1.out (fun _ hk => hk.1)⟩, ⟨bU_ HB.out⟩⟩
          ·rw [if_neg c23] at H
           have c23b0 : decide (0 < (x0_3.length : Int)) = false := decide_eq_false c23
           have c23b1 : decide (0 < x0_3.length) = false := decide_eq_false (by omega)
           clear c23
           have H' := ak H
           clear H
           obtain ⟨Ao44, co44, eo44⟩ := V_slice HO_0.out
           subst eo44
           go_wp2
           go_loopg [1, 6] k3 (fun kq v1 v6 w' => ∃ (x1_4 : List Int) (x6_4 : Int), v6 = .int .i64 x6_4 ∧ Aside0 (attestorref02_gcd.l4 kq x1_4 x5_1 x6_4 = some r) ∧ Aside0 (kq ≤ k3) ∧ Aside0 (Kd.V (Kd.int .u32) 44 w' w.heap.size (fun k_ => ((P0_ k_ ∨ P1_ k_) ∨ w.heap.size ≤ k_)) v1 x1_4) ∧ Aside0 (Below w.heap.size w w'))
           case atStart => exact ⟨(x1_3), (0), gb_, H', ⟨Nat.le_refl _⟩, ⟨vU_ HO_1.out⟩, ⟨bU_ HB.out⟩⟩
           case round =>
            clear H'
            (try clear c1); (try clear c2); (try clear p2); (try clear c3); (try clear c3b0); (try clear c3b1); (try clear c3b2); (try clear c6); (try clear c6b0); (try clear c6b1); (try clear c6b2); (try clear p6); (try clear c7); (try clear c8); (try clear c9); (try clear c11); (try clear c16); (try clear c23); (try clear c23b0); (try clear c23b1); (try clear c26); (try clear c32); (try clear c37); (try clear c37b0)
            obtain ⟨x1_4, x6_4, rfl, HA, HK4, HO_1, HB⟩ := hrel
            cases gk with
            | zero => exact absurd HA.out (by simp [attestorref02_gcd.l4])
            | succ k4 =>
             have H := HA.out
             clear HA
             simp only [attestorref02_gcd.l4] at H
             by_cases c45 : x6_4 < x5_1
             ·rw [if_pos c45] at H
              have c45b0 := decide_eq_true c45
              clear c45
              revert H
              refine bd_ fun t1064 A46 H => ?_
              have H' := ak H
              clear H
              obtain ⟨Ao47, co47, eo47⟩ := V_slice HO_1.out
              subst eo47
              go_wp2_with (first | ((with_reducible refine gate_callee (f := 62) rfl ?_); refine gl_ (some 56) Tryd.func62 #[.slice Ao47 x1_4.length co47, .slice Ao47 x1_4.length co47] ?_; (with_reducible refine (attestorref02_sum.calls k4 _ _ x1_4 _ _ x1_4 t1064 _ ?side1 ?side2 ?side3 ?side4 A46.out).mono ?_); (case side1 => exact cU_ ((V_reads' HO_1.out).2.2)); (case side2 => exact (V_reads' HO_1.out).2.1); (case side3 => exact cU_ ((V_reads' HO_1.out).2.2)); (case side4 => exact (V_reads' HO_1.out).2.1); rintro e w48 ⟨v1065, rfl, ho0, hb⟩; refine ⟨_, rfl, ?_⟩; refine nx3_ (V_elder' (vU_ HO_1.out) (R_base ho0) hb) (R_lower (R_newM (M := fun k_ => (w.heap.size ≤ k_)) ho0 (below_size (bU_ HB.out)) (fun k_ h_ => h_)) (below_size (bU_ HB.out))) (below_step (bU_ HB.out) hb) ?_; clear HO_1 HB; intro HO_1 HO1066 HB; clear hb ho0))
              go_roundg k4
              case measure => have := HK1.out; have := HJ8.out; have := HK3.out; have := HK4.out; omega
              case rel => exact ⟨(t1064), (wrap64 (x6_4 + 1)), gb_, H', ⟨by have := HK1.out; have := HJ8.out; have := HK3.out; have := HK4.out; omega⟩, ⟨V_mono (R_V (R_mono (rU_ HO1066.out) (fun _ hk => hk.1))) (fun k_ hk => by first | exact ⟨(.inr (hk.1)), hk.2⟩ | exact (.inr (hk)))⟩, ⟨bU_ HB.out⟩⟩
             ·rw [if_neg c45] at H
              have c45b0 := decide_eq_false c45
              clear c45
              revert H
              refine bd_ fun t1067 A49 H => ?_
              obtain rfl := Option.some.inj H
              obtain ⟨Ao50, co50, eo50⟩ := V_slice HO_1.out
              subst eo50
              go_wp2_with (first | ((with_reducible refine gate_callee (f := 69) rfl ?_); refine gl_ (some 58) Tryd.func69 #[.slice Ao50 x1_4.length co50] ?_; (with_reducible refine (attestorref02_trim.calls k4 _ _ x1_4 t1067 _ ?side1 ?side2 A49.out).mono ?_); (case side1 => exact cU_ ((V_reads' HO_1.out).2.2)); (case side2 => exact (V_reads' HO_1.out).2.1); rintro e w51 ⟨v1068, rfl, ho0, hb⟩; refine ⟨_, rfl, ?_⟩; refine nx3_ (V_elder' (vU_ HO_1.out) (R_base ho0) hb) (R_lower (R_newM (M := fun k_ => (w.heap.size ≤ k_)) ho0 (below_size (bU_ HB.out)) (fun k_ h_ => h_)) (below_size (bU_ HB.out))) (below_step (bU_ HB.out) hb) ?_; clear HO_1 HB; intro HO_1 HO1069 HB; clear hb ho0))
              go_ret
              exact ⟨_, eW_, R_mono (rU_ HO1069.out) (fun _ hk => hk.1), bU_ HB.out⟩

def attestorref02_bit.f (l0 : List Int) (a1 : Int) : Option (Int) := if 0 ≤ (wrap64 (Int.tdiv a1 32)) then (if (wrap64 (Int.tdiv a1 32)) < (l0.length : Int) then (if 0 ≤ (IntKind.u64.wrap (Int.tmod a1 32)) then (if (shl .u32 1 (IntKind.u64.wrap (Int.tmod a1 32))) = 0 then (none) else (some (((Int.tdiv (rd l0 (wrap64 (Int.tdiv a1 32))) (shl .u32 1 (IntKind.u64.wrap (Int.tmod a1 32)))) % 4294967296) % 2))) else (none)) else (none)) else (none)
set_option maxHeartbeats 8000000 in
set_option maxRecDepth 100000 in
theorem attestorref02_bit.calls (A0 : Option Addr) (c0 : Nat) (l0 : List Int) (a1 : Int) (r : Int) (w : World) (hr0 : Kd.C (Kd.int .u32) w A0 l0.length l0) (hc0 : l0.length ≤ c0) (h : attestorref02_bit.f l0 a1 = some r) :
  Calls Tryd.prog 95 #[.slice A0 l0.length c0, .int .i64 a1] w fun e w' => e = .returned (.int .u32 r) ∧ Drawn0 w w' := by
 have HR0 := ak hr0
 have HC0 := ak hc0
 clear hr0 hc0
 have H := h
 clear h
 unfold attestorref02_bit.f at H
 obtain ⟨ji3, hji3⟩ : ∃ j_ : Int, (wrap64 (Int.tdiv a1 32)) = j_ := ⟨_, rfl⟩
 first | rw [hji3] at H | simp only [hji3] at H
 have hji3w : (IntKind.i64.wrap (Int.tdiv a1 32)) = ji3 := (i64_w _).trans hji3
 obtain ⟨c4, H⟩ : (0 ≤ (ji3)) ∧ _ := it_ H
 have c4b0 := decide_eq_true c4
 clear c4
 obtain ⟨c5, H⟩ : ((ji3) < (l0.length : Int)) ∧ _ := it_ H
 have c5b0 := decide_eq_true c5
 clear c5
 obtain ⟨ji6, hji6⟩ : ∃ j_ : Int, (IntKind.u64.wrap (Int.tmod a1 32)) = j_ := ⟨_, rfl⟩
 first | rw [hji6] at H | simp only [hji6] at H
 obtain ⟨c7, H⟩ : (0 ≤ (ji6)) ∧ _ := it_ H
 have c7b0 := eq_true c7
 have c7b1 := decide_eq_true c7
 clear c7
 obtain ⟨ji8, hji8⟩ : ∃ j_ : Int, (shl .u32 1 (ji6)) = j_ := ⟨_, rfl⟩
 first | rw [hji8] at H | simp only [hji8] at H
 have hji8_ : (IntKind.u32.wrap (1 * 2 ^ min (ji6).toNat 32)) = ji8 := hji8
 have hji8z : (ji6) ≤ 32 → (IntKind.u32.wrap (1 * 2 ^ (ji6).toNat)) = ji8 := shl_small hji8
 have hji8u : (IntKind.u32.wrap (2 ^ min (ji6).toNat 32)) = ji8 := by have h_ := hji8_; rw [Int.one_mul] at h_; exact h_
 have hji8v : (ji6) ≤ 32 → (IntKind.u32.wrap (2 ^ (ji6).toNat)) = ji8 := fun hle_ => by have h_ := hji8z hle_; rw [Int.one_mul] at h_; exact h_
 by_cases c9 : (ji8) = 0
 ·rw [if_pos c9] at H
  exact absurd H (by simp)
 ·rw [if_neg c9] at H
  have c9b0 := beq_eq_false_iff_ne.mpr c9
  have c9b1 := bne_iff_ne.mpr c9
  obtain rfl := Option.some.inj H
  have p1070 : 0 ≤ ((ji3) : Int) := od_
  have q1070 : (ji3) < (l0.length : Int) := od_
  obtain ⟨ad1070, e1070, hx1070_0⟩ := Kd.at_int HR0.out (ji3) p1070 q1070
  cases e1070
  replace p1070 := eq_true p1070
  replace q1070 := eq_true q1070
  go_enter Tryd.func95, Tryd.ntmps95
  go_wp2
  go_ret
  exact ⟨by first | rfl | (simp; done) | (simp only [← hji3, ← hji6, ← hji8] <;> (first | rfl | simp)) | (simp [*]; done), by repeat (first | exact Drawn0.refl _ | apply Drawn0.step)⟩

mutual
def attestorref02_quotient.l0 : Nat → List Int → List Int → List Int → List Int → Int → Option (List Int × List Int)
 | 0, _, _, _, _, _ => none
 | k + 1, x0, x1, x6, x7, x8 => if x8 ≥ 0 then ((attestorref02_sum.f k x7 x7).bind fun t1077 => ((attestorref02_bit.f x0 x8).bind fun t1080 => (if t1080 = 1 then ((attestorref02_sum.f k t1077 (([1] : List Int))).bind fun t1084 => (attestorref02_quotient.j1 k x0 x1 x6 t1084 x8)) else (attestorref02_quotient.j1 k x0 x1 x6 t1077 x8)))) else ((attestorref02_trim.f k x6).bind fun t1074 => (some (t1074, x7)))
def attestorref02_quotient.j1 : Nat → List Int → List Int → List Int → List Int → Int → Option (List Int × List Int)
 | 0, _, _, _, _, _ => none
 | k + 1, x0, x1, x6, x7, x8 => (attestorref02_order.f k x7 x1).bind fun t1087 => (if t1087 ≥ 0 then ((attestorref02_diff.f k x7 x1).bind fun t1088 => (if 0 ≤ (wrap64 (Int.tdiv x8 32)) then (if (wrap64 (Int.tdiv x8 32)) < (x6.length : Int) then (if 0 ≤ (IntKind.u64.wrap (Int.tmod x8 32)) then (attestorref02_quotient.l0 k x0 x1 (x6.set ((wrap64 (Int.tdiv x8 32)) : Int).toNat (((rd x6 (wrap64 (Int.tdiv x8 32))) + (shl .u32 1 (IntKind.u64.wrap (Int.tmod x8 32)))) % 4294967296)) t1088 (wrap64 (x8 - 1))) else (none)) else (none)) else (none))) else (attestorref02_quotient.l0 k x0 x1 x6 x7 (wrap64 (x8 - 1))))
end
def attestorref02_quotient.f (k : Nat) (l0 : List Int) (l1 : List Int) : Option (List Int × List Int) := if 0 ≤ (l0.length : Int) then (if ((l0.length : Int) : Int).toNat ≤ 70368744177664 then (attestorref02_quotient.l0 k l0 l1 (List.replicate ((l0.length : Int) : Int).toNat 0) ([] : List Int) (wrap64 ((wrap64 (32 * (l0.length : Int))) - 1))) else (none)) else (none)
set_option maxHeartbeats 8000000 in
set_option maxRecDepth 100000 in
theorem attestorref02_quotient.calls (k : Nat) (A0 : Option Addr) (c0 : Nat) (l0 : List Int) (A1 : Option Addr) (c1 : Nat) (l1 : List Int) (r1 : List Int) (r2 : List Int) (w : World) (hr0 : Kd.C (Kd.int .u32) w A0 l0.length l0) (hc0 : l0.length ≤ c0) (hr1 : Kd.C (Kd.int .u32) w A1 l1.length l1) (hc1 : l1.length ≤ c1) (h : attestorref02_quotient.f k l0 l1 = some (r1, r2)) :
  Calls Tryd.prog 83 #[.slice A0 l0.length c0, .slice A1 l1.length c1] w fun e w' => ∃ v0_ v1_ : Value, e = .returned (.tuple #[v0_, v1_]) ∧ Kd.R (Kd.int .u32) 44 w' w.heap.size (fun k_ => some k_ ≠ (v1_ : Value).ownBlock) v0_ r1 ∧ Kd.R (Kd.int .u32) 44 w' w.heap.size (fun k_ => some k_ ≠ (v0_ : Value).ownBlock) v1_ r2 ∧ Below w.heap.size w w' := by
 have HR0 := ak hr0
 have HC0 := ak hc0
 clear hr0 hc0
 have HR1 := ak hr1
 have HC1 := ak hc1
 clear hr1 hc1
 have HB := ak (Below.refl w.heap.size w)
 have H := h
 clear h
 unfold attestorref02_quotient.f at H
 obtain ⟨c3, H⟩ : (0 ≤ (l0.length : Int)) ∧ _ := it_ H
 have c3b0 := eq_true c3
 have c3b1 := decide_eq_true c3
 clear c3
 obtain ⟨c4, H⟩ : (((l0.length : Int) : Int).toNat ≤ 70368744177664) ∧ _ := it_ H
 have c4b0 := eq_true c4
 have c4b1 := decide_eq_true c4
 clear c4
 obtain ⟨y1071, hy1071⟩ : ∃ y_ : List Int, y_ = (List.replicate ((l0.length : Int) : Int).toNat 0) := ⟨_, rfl⟩
 first | rw [Option.bind_some, ← hy1071] at H | rw [← hy1071] at H
 have Ny1071 := ak hy1071
 clear hy1071
 have H' := ak H
 clear H
 go_enter Tryd.func83, Tryd.ntmps83
 go_wp2_with (first | ((with_reducible refine gate_dst (N := 11) rfl ?_); refine R_make (Kd.int .u32) _ 44 rfl (N := 11) rfl 23 _ _ rfl (l0.length : Int) ?hx ?hy Tryd.underlying23 (.int .u32 0) 4 info44 rfl (by decide) (by omega) 0 (ok := fun _ => True) (okp := fun _ => True) rfl (fun _ hk => hk) trivial od_ (Nat.le_trans (Nat.mul_le_mul_right _ (od_ : (l0.length : Int).toNat ≤ 70368744177664)) (by omega)) (Below.refl _ _) (Nat.le_refl _) ?_; (case hx => first | rfl); (case hy => first | rfl); intro v1072 w5 ho6 hb hg_ hnew_; clear hg_ hnew_; (first | rw [← Ny1071.out] at ho6 | (simp only [Int.reduceToNat] at ho6; rw [← Ny1071.out] at ho6)); refine nx2_ (R_lower ho6 (below_size (bU_ HB.out))) (below_step (bU_ HB.out) hb) ?_; clear HB; intro HO1073 HB; clear hb ho6))
 go_loopg [7, 8] k (fun kq v7 v8 w' => ∃ (x6_1 : List Int) (x7_1 : List Int) (x8_1 : Int), v8 = .int .i64 x8_1 ∧ Aside0 (attestorref02_quotient.l0 kq l0 l1 x6_1 x7_1 x8_1 = some (r1, r2)) ∧ Aside0 (kq ≤ k) ∧ Aside0 (Kd.R (Kd.int .u32) 44 w' w.heap.size (fun k_ => some k_ ≠ (v7 : Value).ownBlock) v1072 x6_1) ∧ Aside0 (Kd.R (Kd.int .u32) 44 w' w.heap.size (fun k_ => some k_ ≠ (v1072 : Value).ownBlock) v7 x7_1) ∧ Aside0 (Below w.heap.size w w'))
 case atStart => exact ⟨(y1071), (([] : List Int)), (wrap64 ((wrap64 (32 * (l0.length : Int))) - 1)), gb_, H', ⟨Nat.le_refl _⟩, ⟨R_mono (rU_ HO1073.out) (fun _ hk => (by simp [Value.ownBlock]))⟩, ⟨by first | exact Kd.R_nil _ _ _ _ _ | exact Kd.N_nil _ _ _ _ _ | exact Kd.V_nil _ _ _ _ _ | exact Kd.Q_nil _ _ _ _ _ | exact Kd.S_nil _ _ _ _ _⟩, ⟨bU_ HB.out⟩⟩
 case round =>
  clear H'
  (try clear c1); (try clear p2); (try clear c3); (try clear c3b0); (try clear c3b1); (try clear c4); (try clear c4b0); (try clear c4b1); (try clear p6)
  obtain ⟨x6_1, x7_1, x8_1, rfl, HA, HK1, HO_6, HO_7, HB⟩ := hrel
  cases gk with
  | zero => exact absurd HA.out (by simp [attestorref02_quotient.l0])
  | succ k1 =>
   have H := HA.out
   clear HA
   simp only [attestorref02_quotient.l0] at H
   by_cases c7 : x8_1 ≥ 0
   ·rw [if_pos c7] at H
    have c7b0 : decide (0 ≤ x8_1) = true := decide_eq_true c7
    clear c7
    revert H
    refine bd_ fun t1077 A8 H => ?_
    revert H
    refine bd_ fun t1080 A9 H => ?_
    have HC10 := ak H
    clear H
    obtain ⟨Ao11, co11, eo11⟩ := R_slice HO_7.out
    subst eo11
    go_upto_if 26 with (first | ((with_reducible refine gate_callee (f := 62) rfl ?_); refine gl_ (some 22) Tryd.func62 #[.slice Ao11 x7_1.length co11, .slice Ao11 x7_1.length co11] ?_; (with_reducible refine (attestorref02_sum.calls k1 _ _ x7_1 _ _ x7_1 t1077 _ ?side1 ?side2 ?side3 ?side4 A8.out).mono ?_); (case side1 => exact cU_ ((R_reads' HO_7.out).2.2)); (case side2 => exact (R_reads' HO_7.out).2.1); (case side3 => exact cU_ ((R_reads' HO_7.out).2.2)); (case side4 => exact (R_reads' HO_7.out).2.1); rintro e w12 ⟨v1078, rfl, ho0, hb⟩; refine ⟨_, rfl, ?_⟩; refine nx4_ (R_elder' (rU_ HO_6.out) (R_base ho0) hb) (R_elder' (rU_ HO_7.out) (R_base ho0) hb) (R_lower (R_new' (R_new' ho0 (R_lt (rU_ HO_6.out))) (R_lt (rU_ HO_7.out))) (below_size (bU_ HB.out))) (below_step (bU_ HB.out) hb) ?_; clear HO_6 HO_7 HB; intro HO_6 HO_7 HO1079 HB; clear hb ho0) | ((with_reducible refine gate_callee (f := 95) rfl ?_); refine gl_ (some 25) Tryd.func95 #[.slice A0 l0.length c0, .int .i64 x8_1] ?_; (with_reducible refine (attestorref02_bit.calls _ _ l0 x8_1 t1080 _ ?side1 ?side2 A9.out).mono ?_); (case side1 => exact cU_ (C_below HR0.out HB.out)); (case side2 => exact HC0.out); rintro e w' ⟨rfl, ⟨nd, rfl⟩⟩; refine ⟨_, rfl, ?_⟩))
    (try simp only [Act.put, s1_, s2_, s3_])
    go_cut [7] (fun v7 wc => ∃ (kq : Nat) (x7_9 : List Int), Aside0 (attestorref02_quotient.j1 kq l0 l1 x6_1 x7_9 x8_1 = some (r1, r2)) ∧ Aside0 (kq ≤ k1) ∧ Aside0 (Kd.R (Kd.int .u32) 44 wc w.heap.size (fun k_ => some k_ ≠ (v7 : Value).ownBlock) v1072 x6_1) ∧ Aside0 (Kd.R (Kd.int .u32) 44 wc w.heap.size (fun k_ => some k_ ≠ (v1072 : Value).ownBlock) v7 x7_9) ∧ Aside0 (Below w.heap.size w wc))
    case first =>
     have H := HC10.out
     clear HC10
     by_cases c13 : t1080 = 1
     ·rw [if_pos c13] at H
      have c13b0 := beq_iff_eq.mpr c13
      have c13b1 := bne_eq_false_iff_eq.mpr c13
      clear c13
      (first | rw [c13b0] | (simp only [i64_w, i32_w]; rw [c13b0]) | rw [c13b1] | skip)
      obtain ⟨y1081, hy1081⟩ : ∃ y_ : List Int, y_ = (([1] : List Int)) := ⟨_, rfl⟩
      replace H : ((attestorref02_sum.f k1 t1077 y1081).bind fun t1084 => (attestorref02_quotient.j1 k1 l0 l1 x6_1 t1084 x8_1)) = some (r1, r2) := by first | (rw [hy1081]; with_reducible exact H) | (have H2_ := (Option.bind_some _ _).symm.trans H; rw [hy1081]; with_reducible exact H2_) | (have H2_ := (Option.bind_some _ _).symm.trans H; with_reducible exact H2_) | with_reducible exact H | (rw [hy1081]; exact H) | exact H
      have Ny1081 := ak hy1081
      clear hy1081
      revert H
      refine bd_ fun t1084 A14 H => ?_
      have H' := ak H
      clear H
      go_wp2_with (first | ((with_reducible refine gate_dst (N := 28) rfl ?_); refine R_lit (Kd.int .u32) _ 44 ?hg (N := 28) ?hd (xs := ([1] : List Int)) (inner := [.int .u32 1]) (ok := fun _ => True) (okp := fun _ => True) ?hr ?hp (fun _ hk => hk) trivial (Below.refl _ _) (Nat.le_refl _) (by simp) ?_; (case hd => rfl); (case hg => rfl); (case hr => first | (go_simp; done) | (go_simp; rfl)); (case hp => exact (Reps.one (show Kd.M (Kd.int .u32) _ _ _ 1 [.int .u32 1] from rfl) (Reps.none _ _))); intro v1082 w15 ho16 hb hg_ hnew_; clear hg_ hnew_; (first | rw [← Ny1081.out] at ho16 | (simp only [Int.reduceToNat] at ho16; rw [← Ny1081.out] at ho16)); refine nx5_ (R_elder' (rU_ HO_6.out) (R_base ho16) hb) (R_elder' (rU_ HO_7.out) (R_base ho16) hb) (R_elder' (rU_ HO1079.out) (R_base ho16) hb) (R_lower (R_new' (R_new' (R_new' ho16 (R_lt (rU_ HO_6.out))) (R_lt (rU_ HO_7.out))) (R_lt (rU_ HO1079.out))) (below_size (bU_ HB.out))) (below_step (bU_ HB.out) hb) ?_; clear HO_6 HO_7 HO1079 HB; intro HO_6 HO_7 HO1079 HO1083 HB; clear hb ho16; obtain ⟨Ao17, co17, eo17⟩ := R_slice HO1079.out; subst eo17; obtain ⟨Ao18, co18, eo18⟩ := R_slice HO1083.out; subst eo18) | ((with_reducible refine gate_callee (f := 62) rfl ?_); refine gl_ (some 29) Tryd.func62 #[.slice Ao17 t1077.length co17, .slice Ao18 y1081.length co18] ?_; (with_reducible refine (attestorref02_sum.calls k1 _ _ t1077 _ _ y1081 t1084 _ ?side1 ?side2 ?side3 ?side4 A14.out).mono ?_); (case side1 => exact cU_ ((R_reads' HO1079.out).2.2)); (case side2 => exact (R_reads' HO1079.out).2.1); (case side3 => exact cU_ ((R_reads' HO1083.out).2.2)); (case side4 => exact (R_reads' HO1083.out).2.1); rintro e w19 ⟨v1085, rfl, ho0, hb⟩; refine ⟨_, rfl, ?_⟩; refine nx6_ (R_elder' (rU_ HO_6.out) (R_base ho0) hb) (R_elder' (rU_ HO_7.out) (R_base ho0) hb) (R_elder' (rU_ HO1079.out) (R_base ho0) hb) (R_elder' (rU_ HO1083.out) (R_base ho0) hb) (R_lower (R_new' (R_new' (R_new' (R_new' ho0 (R_lt (rU_ HO_6.out))) (R_lt (rU_ HO_7.out))) (R_lt (rU_ HO1079.out))) (R_lt (rU_ HO1083.out))) (below_size (bU_ HB.out))) (below_step (bU_ HB.out) hb) ?_; clear HO_6 HO_7 HO1079 HO1083 HB; intro HO_6 HO_7 HO1079 HO1083 HO1086 HB; clear hb ho0))
      go_meet
      case rel => exact ⟨_, (t1084), H', ⟨by have := HK1.out; first | omega | exact Nat.le_refl _⟩, ⟨R_mono (rU_ HO_6.out) (fun _ hk => hk.2)⟩, ⟨R_mono (rU_ HO1086.out) (fun _ hk => hk.1.1.1.2)⟩, ⟨bU_ HB.out⟩⟩
     ·rw [if_neg c13] at H
      have c13b0 := beq_eq_false_iff_ne.mpr c13
      have c13b1 := bne_iff_ne.mpr c13
      (first | rw [c13b0] | (simp only [i64_w, i32_w]; rw [c13b0]) | rw [c13b1] | skip)
      have H' := ak H
      clear H
      go_wp2
      go_meet
      case rel => exact ⟨_, (t1077), H', ⟨by have := HK1.out; first | omega | exact Nat.le_refl _⟩, ⟨R_mono (rU_ HO_6.out) (fun _ hk => hk.2)⟩, ⟨R_mono (rU_ HO1079.out) (fun _ hk => hk.1.2)⟩, ⟨bU_ HB.out⟩⟩
    case rest =>
     clear HC10
     (try clear c1); (try clear p2); (try clear c3); (try clear c3b0); (try clear c3b1); (try clear c4); (try clear c4b0); (try clear c4b1); (try clear c6); (try clear p6); (try clear c7); (try clear c7b0); (try clear c8); (try clear c9); (try clear c13); (try clear c13b0); (try clear c13b1)
     obtain ⟨kq, x7_9, HA, HJ9, HO_6, HO_7, HB⟩ := hcut
     cases kq with
     | zero => exact absurd HA.out (by simp [attestorref02_quotient.j1])
     | succ kj9 =>
      have H := HA.out
      clear HA
      simp only [attestorref02_quotient.j1] at H
      revert H
      refine bd_ fun t1087 A20 H => ?_
      by_cases c21 : t1087 ≥ 0
      ·rw [if_pos c21] at H
       have c21b0 : decide (0 ≤ t1087) = true := decide_eq_true c21
       clear c21
       revert H
       refine bd_ fun t1088 A22 H => ?_
       obtain ⟨ji23, hji23⟩ : ∃ j_ : Int, (wrap64 (Int.tdiv x8_1 32)) = j_ := ⟨_, rfl⟩
       first | rw [hji23] at H | simp only [hji23] at H
       (try rw [hji23] at A20)
       (try rw [hji23] at A22)
       have hji23w : (IntKind.i64.wrap (Int.tdiv x8_1 32)) = ji23 := (i64_w _).trans hji23
       obtain ⟨c24, H⟩ : (0 ≤ (ji23)) ∧ _ := it_ H
       have c24b0 := decide_eq_true c24
       clear c24
       obtain ⟨c25, H⟩ : ((ji23) < (x6_1.length : Int)) ∧ _ := it_ H
       have c25b0 := decide_eq_true c25
       clear c25
       obtain ⟨ji26, hji26⟩ : ∃ j_ : Int, (IntKind.u64.wrap (Int.tmod x8_1 32)) = j_ := ⟨_, rfl⟩
       first | rw [hji26] at H | simp only [hji26] at H
       (try rw [hji26] at A20)
       (try rw [hji26] at A22)
       obtain ⟨c27, H⟩ : (0 ≤ (ji26)) ∧ _ := it_ H
       have c27b0 := eq_true c27
       have c27b1 := decide_eq_true c27
       clear c27
       obtain ⟨ji28, hji28⟩ : ∃ j_ : Int, (shl .u32 1 (ji26)) = j_ := ⟨_, rfl⟩
       first | rw [hji28] at H | simp only [hji28] at H
       (try rw [hji28] at A20)
       (try rw [hji28] at A22)
       have hji28_ : (IntKind.u32.wrap (1 * 2 ^ min (ji26).toNat 32)) = ji28 := hji28
       have hji28z : (ji26) ≤ 32 → (IntKind.u32.wrap (1 * 2 ^ (ji26).toNat)) = ji28 := shl_small hji28
       have hji28u : (IntKind.u32.wrap (2 ^ min (ji26).toNat 32)) = ji28 := by have h_ := hji28_; rw [Int.one_mul] at h_; exact h_
       have hji28v : (ji26) ≤ 32 → (IntKind.u32.wrap (2 ^ (ji26).toNat)) = ji28 := fun hle_ => by have h_ := hji28z hle_; rw [Int.one_mul] at h_; exact h_
       obtain ⟨y1092, hy1092⟩ : ∃ y_ : List Int, y_ = (x6_1.set ((ji23) : Int).toNat (((rd x6_1 (ji23)) + (ji28)) % 4294967296)) := ⟨_, rfl⟩
       first | rw [Option.bind_some, ← hy1092] at H | rw [← hy1092] at H
       have Ny1092 := ak hy1092
       clear hy1092
       have H' := ak H
       clear H
       obtain ⟨Ao30, co30, eo30⟩ := R_slice HO_7.out
       subst eo30
       go_wp2_with (first | ((with_reducible refine gate_callee (f := 80) rfl ?_); refine gl_ (some 32) Tryd.func80 #[.slice Ao30 x7_9.length co30, .slice A1 l1.length c1] ?_; (with_reducible refine (attestorref02_order.calls kj9 _ _ x7_9 _ _ l1 t1087 _ ?side1 ?side2 ?side3 ?side4 A20.out).mono ?_); (case side1 => exact cU_ ((R_reads' HO_7.out).2.2)); (case side2 => exact (R_reads' HO_7.out).2.1); (case side3 => exact cU_ (C_below HR1.out HB.out)); (case side4 => exact HC1.out); rintro e w' ⟨rfl, ⟨nd, rfl⟩⟩; refine ⟨_, rfl, ?_⟩; (try (rw [drewN_self wc]; generalize hq_ : World.drewN wc _ = wc; have n0_ : Aside0 (Kd.R (Kd.int .u32) 44 wc w.heap.size (fun k_ => some k_ ≠ (.slice Ao30 x7_9.length co30 : Value).ownBlock) v1072 x6_1) := ⟨by rw [← hq_]; exact (rU_ HO_6.out)⟩; have n1_ : Aside0 (Kd.R (Kd.int .u32) 44 wc w.heap.size (fun k_ => some k_ ≠ (v1072 : Value).ownBlock) (.slice Ao30 x7_9.length co30) x7_9) := ⟨by rw [← hq_]; exact (rU_ HO_7.out)⟩; have n2_ : Aside0 (Below w.heap.size w wc) := ⟨by rw [← hq_]; exact (bU_ HB.out)⟩; clear HO_6 HO_7 HB hq_; have HO_6 := n0_; have HO_7 := n1_; have HB := n2_; clear n0_ n1_ n2_))) | ((with_reducible refine gate_callee (f := 82) rfl ?_); refine gl_ (some 36) Tryd.func82 #[.slice Ao30 x7_9.length co30, .slice A1 l1.length c1] ?_; (with_reducible refine (attestorref02_diff.calls kj9 _ _ x7_9 _ _ l1 t1088 _ ?side1 ?side2 ?side3 ?side4 A22.out).mono ?_); (case side1 => exact cU_ ((R_reads' HO_7.out).2.2)); (case side2 => exact (R_reads' HO_7.out).2.1); (case side3 => exact cU_ (C_below HR1.out HB.out)); (case side4 => exact HC1.out); rintro e w31 ⟨v1089, rfl, ho0, hb⟩; refine ⟨_, rfl, ?_⟩; refine nx4_ (R_elder' (rU_ HO_6.out) (R_base ho0) hb) (R_elder' (rU_ HO_7.out) (R_base ho0) hb) (R_lower (R_new' (R_new' ho0 (R_lt (rU_ HO_6.out))) (R_lt (rU_ HO_7.out))) (below_size (bU_ HB.out))) (below_step (bU_ HB.out) hb) ?_; clear HO_6 HO_7 HB; intro HO_6 HO_7 HO1090 HB; clear hb ho0; obtain ⟨Ao33, co33, eo33⟩ := R_slice HO_6.out; subst eo33; have pfr32 : 0 ≤ ((ji23) : Int) := od_; have qfr32 : ((ji23) : Int) < ((x6_1.length : Int) : Int) := od_; obtain ⟨gofr32, cofr32, eofr32, gbfr32, glfr32, clfr32, HGfr32⟩ := Kd.R_form HO_6.out (by omega); (first | cases eofr32 | (injection eofr32 with ea_ en_ ec_; (first | subst ea_ | (injection ea_ with ea_; subst ea_)); subst ec_; clear en_)); have GBfr32 := ak gbfr32; have GGfr32 := ak HGfr32; clear gbfr32 glfr32 HGfr32; clear pfr32 qfr32; have p1091 : 0 ≤ ((ji23) : Int) := od_; have q1091 : (ji23) < (x6_1.length : Int) := od_; obtain ⟨ad1091, e1091, hx1091_0⟩ := Kd.at_int (R_reads' HO_6.out).2.2 (ji23) p1091 q1091; obtain rfl : (⟨gofr32, 0, none⟩ : Addr) = ad1091 := (by injection e1091); (first | simp only [add_plain] at hx1091_0 | simp only [add_at] at hx1091_0 | simp only [Addr.add, Nat.zero_add] at hx1091_0 | skip); replace p1091 := eq_true p1091; replace q1091 := eq_true q1091; have p29 : 0 ≤ ((ji23) : Int) := od_; have q29 : ((ji23) : Int) < ((x6_1.length : Int) : Int) := od_; obtain ⟨hx29_0, hf29_0⟩ := Kd.R_celln 0 HO_6.out ((ji23) : Int) p29 q29; replace p29 := eq_true p29; replace q29 := eq_true q29; obtain ⟨hy34_, hz34_⟩ := Kd.R_celln 0 HO_6.out ((ji23) : Int) od_ od_; have HP34 := Kd.R_putg HO_6.out ((ji23) : Int) (((rd x6_1 (ji23)) + (ji28)) % 4294967296)) | ((with_reducible refine gate_store (t := 44) (p := 50) rfl ?_); refine store_event (t := 44) (p := 50) (v := ?vo_w35) (w1 := (w31.setCell ⟨gofr32, ((ji23) : Int).toNat, none⟩ (.int .u32 (((rd x6_1 (ji23)) + (ji28)) % 4294967296)))) ?hg ?ho ?hn ?hr ?_; (case ho => rfl); (case hg => rfl); (case hn => rfl); (case hr => first | (go_simp; done) | (go_simp; rfl)); intro w35 hw; have hg : w31.grownBy w35 (some gofr32) := (by rw [hw]; exact HP34.2); have hp_ : Kd.R (Kd.int .u32) 44 w35 w.heap.size (fun k_ => some k_ ≠ (.slice Ao30 x7_9.length co30 : Value).ownBlock ∧ some k_ ≠ (v1089 : Value).ownBlock) (.slice (some ⟨gofr32, 0, none⟩) x6_1.length co33) y1092 := (by rw [hw, Ny1092.out]; exact HP34.1); clear HP34; refine nx4_ (hp_) (Kd.R_after (v := (.slice (some ⟨gofr32, 0, none⟩) x6_1.length co33)) (v1 := (.slice (some ⟨gofr32, 0, none⟩) x6_1.length co33)) (ok := (fun k_ => some k_ ≠ (v1089 : Value).ownBlock)) (R_mono (rU_ HO_7.out) (fun _ hk => ⟨hk.2, hk.1⟩)) hg (.inl rfl)) (Kd.R_after (v := (.slice (some ⟨gofr32, 0, none⟩) x6_1.length co33)) (v1 := (.slice (some ⟨gofr32, 0, none⟩) x6_1.length co33)) (ok := (fun k_ => some k_ ≠ (.slice Ao30 x7_9.length co30 : Value).ownBlock)) (R_mono (rU_ HO1090.out) (fun _ hk => ⟨hk.2, hk.1.2⟩)) hg (.inl rfl)) ((by rw [hw]; exact below_set (HB.out) GBfr32.out : Below w.heap.size w w35)) ?_; clear HO_6 HO_7 HO1090 HB; intro HO_6 HO_7 HO1090 HB; clear hg hw hp_))
       go_roundg kj9
       case measure => have := HK1.out; have := HJ9.out; omega
       case rel => exact ⟨(y1092), (t1088), (wrap64 (x8_1 - 1)), gb_, H', ⟨by have := HK1.out; have := HJ9.out; omega⟩, ⟨R_mono (rU_ HO_6.out) (fun _ hk => hk.2)⟩, ⟨R_mono (rU_ HO1090.out) (fun _ hk => hk.2)⟩, ⟨bU_ HB.out⟩⟩
      ·rw [if_neg c21] at H
       have c21b0 : decide (0 ≤ t1087) = false := decide_eq_false c21
       clear c21
       have H' := ak H
       clear H
       obtain ⟨Ao36, co36, eo36⟩ := R_slice HO_7.out
       subst eo36
       go_wp2_with (first | ((with_reducible refine gate_callee (f := 80) rfl ?_); refine gl_ (some 32) Tryd.func80 #[.slice Ao36 x7_9.length co36, .slice A1 l1.length c1] ?_; (with_reducible refine (attestorref02_order.calls kj9 _ _ x7_9 _ _ l1 t1087 _ ?side1 ?side2 ?side3 ?side4 A20.out).mono ?_); (case side1 => exact cU_ ((R_reads' HO_7.out).2.2)); (case side2 => exact (R_reads' HO_7.out).2.1); (case side3 => exact cU_ (C_below HR1.out HB.out)); (case side4 => exact HC1.out); rintro e w' ⟨rfl, ⟨nd, rfl⟩⟩; refine ⟨_, rfl, ?_⟩))
       go_roundg kj9
       case measure => have := HK1.out; have := HJ9.out; omega
       case rel => exact ⟨(x6_1), (x7_9), (wrap64 (x8_1 - 1)), gb_, H', ⟨by have := HK1.out; have := HJ9.out; omega⟩, ⟨rU_ HO_6.out⟩, ⟨rU_ HO_7.out⟩, ⟨bU_ HB.out⟩⟩
   ·rw [if_neg c7] at H
    have c7b0 : decide (0 ≤ x8_1) = false := decide_eq_false c7
    clear c7
    revert H
    refine bd_ fun t1074 A37 H => ?_
    simp only [Option.some.injEq, Prod.mk.injEq] at H
    obtain ⟨rfl, rfl⟩ := H
    obtain ⟨Ao38, co38, eo38⟩ := R_slice HO_6.out
    subst eo38
    go_wp2_with (first | ((with_reducible refine gate_callee (f := 69) rfl ?_); refine gl_ (some 52) Tryd.func69 #[.slice Ao38 x6_1.length co38] ?_; (with_reducible refine (attestorref02_trim.calls k1 _ _ x6_1 t1074 _ ?side1 ?side2 A37.out).mono ?_); (case side1 => exact cU_ ((R_reads' HO_6.out).2.2)); (case side2 => exact (R_reads' HO_6.out).2.1); rintro e w39 ⟨v1075, rfl, ho0, hb⟩; refine ⟨_, rfl, ?_⟩; refine nx4_ (R_elder' (rU_ HO_6.out) (R_base ho0) hb) (R_elder' (rU_ HO_7.out) (R_base ho0) hb) (R_lower (R_new' (R_new' ho0 (R_lt (rU_ HO_6.out))) (R_lt (rU_ HO_7.out))) (below_size (bU_ HB.out))) (below_step (bU_ HB.out) hb) ?_; clear HO_6 HO_7 HB; intro HO_6 HO_7 HO1076 HB; clear hb ho0))
    go_ret2
    exact ⟨_, _, eW_, R_mono (rU_ HO1076.out) (fun _ hk => hk.2), R_mono (rU_ HO_7.out) (fun _ hk => hk.2), bU_ HB.out⟩

def attestorref02_SameNat.l0 : Nat → List Int → List Int → Int → Option (Bool)
 | 0, _, _, _ => none
 | k + 1, x0, x1, x5 => if x5 < (x0.length : Int) then (if 0 ≤ x5 then (if x5 < (x1.length : Int) then (if (rd x0 x5) = (rd x1 x5) then (attestorref02_SameNat.l0 k x0 x1 (wrap64 (x5 + 1))) else (some false)) else (none)) else (none)) else (some true)
def attestorref02_SameNat.f (k : Nat) (l0 : List Int) (l1 : List Int) : Option (Bool) := if (l0.length : Int) = (l1.length : Int) then (attestorref02_SameNat.l0 k l0 l1 0) else (some false)
set_option maxHeartbeats 8000000 in
set_option maxRecDepth 100000 in
theorem attestorref02_SameNat.calls (k : Nat) (A0 : Option Addr) (c0 : Nat) (l0 : List Int) (A1 : Option Addr) (c1 : Nat) (l1 : List Int) (r : Bool) (w : World) (hr0 : Kd.C (Kd.int .u32) w A0 l0.length l0) (hc0 : l0.length ≤ c0) (hr1 : Kd.C (Kd.int .u32) w A1 l1.length l1) (hc1 : l1.length ≤ c1) (h : attestorref02_SameNat.f k l0 l1 = some r) :
  Calls Tryd.prog 15 #[.slice A0 l0.length c0, .slice A1 l1.length c1] w fun e w' => e = .returned (.bool r) ∧ Drawn0 w w' := by
 have HR0 := ak hr0
 have HC0 := ak hc0
 clear hr0 hc0
 have HR1 := ak hr1
 have HC1 := ak hc1
 clear hr1 hc1
 have H : (if (l0.length : Int) = (l1.length : Int) then (attestorref02_SameNat.l0 k l0 l1 0) else (some false)) = some r := h
 clear h
 by_cases c3 : (l0.length : Int) = (l1.length : Int)
 ·rw [if_pos c3] at H
  have c3b0 := beq_iff_eq.mpr c3
  have c3b1 := bne_eq_false_iff_eq.mpr c3
  have c3b2 : (l0.length == l1.length) = true := by first | simpa using c3 | (simp at c3 ⊢; omega)
  clear c3
  have H' := ak H
  clear H
  go_enter Tryd.func15, Tryd.ntmps15
  go_wp2
  repeat (go_quiet (fail); try go_wp2)
  go_loopg [5] k (fun kq v5 w' => ∃ (x5_1 : Int), v5 = .int .i64 x5_1 ∧ Aside0 (attestorref02_SameNat.l0 kq l0 l1 x5_1 = some r) ∧ Aside0 (kq ≤ k) ∧ Drawn0 w w')
  case atStart => exact ⟨(0), gb_, H', ⟨Nat.le_refl _⟩, by repeat (first | exact Drawn0.refl _ | apply Drawn0.step)⟩
  case round =>
   clear H'
   (try clear c1); (try clear p2); (try clear c3); (try clear c3b0); (try clear c3b1); (try clear c3b2)
   obtain ⟨x5_1, rfl, HA, HK1, ⟨m1, rfl⟩⟩ := hrel
   cases gk with
   | zero => exact absurd HA.out (by simp [attestorref02_SameNat.l0])
   | succ k1 =>
    have H := HA.out
    clear HA
    simp only [attestorref02_SameNat.l0] at H
    by_cases c4 : x5_1 < (l0.length : Int)
    ·rw [if_pos c4] at H
     have c4b0 := decide_eq_true c4
     clear c4
     obtain ⟨c5, H⟩ : (0 ≤ x5_1) ∧ _ := it_ H
     have c5b0 := decide_eq_true c5
     clear c5
     obtain ⟨c6, H⟩ : (x5_1 < (l1.length : Int)) ∧ _ := it_ H
     have c6b0 := decide_eq_true c6
     clear c6
     by_cases c7 : (rd l0 x5_1) = (rd l1 x5_1)
     ·rw [if_pos c7] at H
      have c7b0 := beq_iff_eq.mpr c7
      have c7b1 := bne_eq_false_iff_eq.mpr c7
      clear c7
      have H' := ak H
      clear H
      have p1137 : 0 ≤ (x5_1 : Int) := od_
      have q1137 : x5_1 < (l0.length : Int) := od_
      obtain ⟨ad1137, e1137, hx1137_0⟩ := Kd.at_int HR0.out x5_1 p1137 q1137
      cases e1137
      replace p1137 := eq_true p1137
      replace q1137 := eq_true q1137
      have p1138 : 0 ≤ (x5_1 : Int) := od_
      have q1138 : x5_1 < (l1.length : Int) := od_
      obtain ⟨ad1138, e1138, hx1138_0⟩ := Kd.at_int HR1.out x5_1 p1138 q1138
      cases e1138
      replace p1138 := eq_true p1138
      replace q1138 := eq_true q1138
      go_wp2
      repeat (go_quiet (fail); try go_wp2)
      go_roundg k1
      case measure => have := HK1.out; omega
      case rel => exact ⟨(wrap64 (x5_1 + 1)), gb_, H', ⟨by have := HK1.out; omega⟩, by repeat (first | exact Drawn0.refl _ | apply Drawn0.step)⟩
     ·rw [if_neg c7] at H
      have c7b0 := beq_eq_false_iff_ne.mpr c7
      have c7b1 := bne_iff_ne.mpr c7
      obtain rfl := Option.some.inj H
      have p1137 : 0 ≤ (x5_1 : Int) := od_
      have q1137 : x5_1 < (l0.length : Int) := od_
      obtain ⟨ad1137, e1137, hx1137_0⟩ := Kd.at_int HR0.out x5_1 p1137 q1137
      cases e1137
      replace p1137 := eq_true p1137
      replace q1137 := eq_true q1137
      have p1138 : 0 ≤ (x5_1 : Int) := od_
      have q1138 : x5_1 < (l1.length : Int) := od_
      obtain ⟨ad1138, e1138, hx1138_0⟩ := Kd.at_int HR1.out x5_1 p1138 q1138
      cases e1138
      replace p1138 := eq_true p1138
      replace q1138 := eq_true q1138
      go_wp2
      repeat (go_quiet (fail); try go_wp2)
      go_ret
      exact ⟨by first | rfl | (simp; done) | (simp [*]; done), by repeat (first | exact Drawn0.refl _ | apply Drawn0.step)⟩
    ·rw [if_neg c4] at H
     have c4b0 := decide_eq_false c4
     clear c4
     obtain rfl := Option.some.inj H
     go_wp2
     repeat (go_quiet (fail); try go_wp2)
     go_ret
     exact ⟨by first | rfl | (simp; done) | (simp [*]; done), by repeat (first | exact Drawn0.refl _ | apply Drawn0.step)⟩
 ·rw [if_neg c3] at H
  have c3b0 := beq_eq_false_iff_ne.mpr c3
  have c3b1 := bne_iff_ne.mpr c3
  have c3b2 : (l0.length == l1.length) = false := by first | simpa using c3 | (simp at c3 ⊢; omega)
  obtain rfl := Option.some.inj H
  go_enter Tryd.func15, Tryd.ntmps15
  go_wp2
  repeat (go_quiet (fail); try go_wp2)
  go_ret
  exact ⟨by first | rfl | (simp; done) | (simp [*]; done), by repeat (first | exact Drawn0.refl _ | apply Drawn0.step)⟩

end Go.Proofs.YtjjjoepnlhpjdaaDoor.Q

import Derived.Test.YtjjjoepnlhpjdaaDoorQ0
namespace Go.Proofs.YtjjjoepnlhpjdaaDoor.Q
open Go.RowKit Go.Proofs.YtjjjoepnlhpjdaaDoorW.PrintWords Go.Proofs.YtjjjoepnlhpjdaaDoorW.PrintLast Go.Proofs.YtjjjoepnlhpjdaaDoorW.PrintMore
open Kd (R_below R_mono R_lower R_newM R_base R_lt R_slice R_reads' R_V R_tight R_lit R_make V_below V_mono V_lower V_elder' V_slice V_reads' V_mk C_below F_below C_F fresh' R_drew V_drew V_at heap_int)
attribute [local go_sem] max2_int min2_int max_two min_two max_three min_three max_four min_four   -- for this text's walks alone
set_option linter.unusedVariables false
set_option linter.unusedSimpArgs false

def ratio_trim.l0 : Nat → List Int → Int → Option (List Int)
 | 0, _, _ => none
 | k + 1, x0, x3 => if x3 > 0 then (if 0 ≤ (wrap64 (x3 - 1)) then (if (wrap64 (x3 - 1)) < (x0.length : Int) then (if (rd x0 (wrap64 (x3 - 1))) = 0 then (ratio_trim.l0 k x0 (wrap64 (x3 - 1))) else (if 0 ≤ x3 then (if x3 ≤ (x0.length : Int) then (some (x0.take (x3 : Int).toNat)) else (none)) else (none))) else (none)) else (none)) else (if 0 ≤ x3 then (if x3 ≤ (x0.length : Int) then (some (x0.take (x3 : Int).toNat)) else (none)) else (none))
def ratio_trim.f (k : Nat) (l0 : List Int) : Option (List Int) := ratio_trim.l0 k l0 (l0.length : Int)
theorem ratio_trim.mono_l : ∀ k, (∀ y0 y1, LeO (ratio_trim.l0 k y0 y1) (ratio_trim.l0 (k + 1) y0 y1))
 | 0 => fun _ _ r h => by simp [ratio_trim.l0] at h
 | k + 1 => by
  have ih0 := ratio_trim.mono_l k
  ·intro y0 y1
   unfold ratio_trim.l0
   with_reducible repeat' first | apply ih0 | exact LeO.refl _ | exact LeO.none _ | refine LeO.ite ?_ ?_ | refine LeO.bind ?_ (fun _ => ?_)
theorem ratio_trim.mono : ∀ a0 k, LeO (ratio_trim.f k a0) (ratio_trim.f (k + 1) a0) := by
 intro a0 k
 have ih0 := ratio_trim.mono_l k
 unfold ratio_trim.f
 with_reducible repeat' first | apply ih0 | exact LeO.refl _ | exact LeO.none _ | refine LeO.ite ?_ ?_ | refine LeO.bind ?_ (fun _ => ?_)
set_option maxHeartbeats 8000000 in
set_option maxRecDepth 100000 in
theorem ratio_trim.calls (k : Nat) (P0_ : Nat → Prop) (A0 : Option Addr) (c0 : Nat) (l0 : List Int) (r : List Int) (w : World) (hs0 : Kd.V (Kd.int .u32) 44 w w.heap.size (fun k_ => P0_ k_) (.slice A0 l0.length c0) l0) (h : ratio_trim.f k l0 = some r) :
  Calls Tryd.prog 68 #[.slice A0 l0.length c0] w fun e w' => ∃ v0_ : Value, e = .returned (v0_) ∧ Kd.V (Kd.int .u32) 44 w' w.heap.size (fun k_ => (P0_ k_ ∨ w.heap.size ≤ k_)) v0_ r ∧ Below w.heap.size w w' := by
 have HO0 := ak (show Kd.V (Kd.int .u32) 44 w w.heap.size (fun k_ => (P0_ k_ ∨ w.heap.size ≤ k_)) (.slice A0 l0.length c0) l0 from V_mono hs0 (fun k_ hk => .inl hk))
 have HB := ak (Below.refl w.heap.size w)
 have H : (ratio_trim.l0 k l0 (l0.length : Int)) = some r := h
 clear h
 have H' := ak H
 clear H
 go_enter Tryd.func68, Tryd.ntmps68
 go_wp2
 go_loopg [3] k (fun kq v3 w' => ∃ (x3_1 : Int), v3 = .int .i64 x3_1 ∧ Aside0 (ratio_trim.l0 kq l0 x3_1 = some r) ∧ Aside0 (kq ≤ k) ∧ Aside0 (Kd.V (Kd.int .u32) 44 w' w.heap.size (fun k_ => (P0_ k_ ∨ w.heap.size ≤ k_)) (.slice A0 l0.length c0) l0) ∧ Aside0 (Below w.heap.size w w'))
 case atStart => exact ⟨((l0.length : Int)), gb_, H', ⟨Nat.le_refl _⟩, ⟨vU_ HO0.out⟩, ⟨bU_ HB.out⟩⟩
 case round =>
  clear H'
  obtain ⟨x3_1, rfl, HA, HK1, HO_0, HB⟩ := hrel
  cases gk with
  | zero => exact absurd HA.out (by simp [ratio_trim.l0])
  | succ k1 =>
   have H := HA.out
   clear HA
   simp only [ratio_trim.l0] at H
   by_cases c2 : x3_1 > 0
   ·rw [if_pos c2] at H
    have c2b0 : decide (0 < x3_1) = true := decide_eq_true c2
    clear c2
    obtain ⟨ji3, hji3⟩ : ∃ j_ : Int, (wrap64 (x3_1 - 1)) = j_ := ⟨_, rfl⟩
    first | rw [hji3] at H | simp only [hji3] at H
    have hji3w : (IntKind.i64.wrap (x3_1 - 1)) = ji3 := (i64_w _).trans hji3
    obtain ⟨c4, H⟩ : (0 ≤ (ji3)) ∧ _ := it_ H
    have c4b0 := decide_eq_true c4
    clear c4
    obtain ⟨c5, H⟩ : ((ji3) < (l0.length : Int)) ∧ _ := it_ H
    have c5b0 := decide_eq_true c5
    clear c5
    by_cases c6 : (rd l0 (ji3)) = 0
    ·rw [if_pos c6] at H
     have c6b0 := beq_iff_eq.mpr c6
     have c6b1 := bne_eq_false_iff_eq.mpr c6
     clear c6
     have H' := ak H
     clear H
     have p101 : 0 ≤ ((ji3) : Int) := od_
     have q101 : (ji3) < (l0.length : Int) := od_
     obtain ⟨ad101, e101, hx101_0⟩ := Kd.at_int (V_reads' HO_0.out).2.2 (ji3) p101 q101
     cases e101
     replace p101 := eq_true p101
     replace q101 := eq_true q101
     go_wp2
     go_roundg k1
     case measure => have := HK1.out; omega
     case rel => exact ⟨(ji3), (by first | rfl | (simp; done) | (simp only [← hji3] <;> (first | rfl | simp)) | (simp [*]; done)), H', ⟨by have := HK1.out; omega⟩, ⟨vU_ HO_0.out⟩, ⟨bU_ HB.out⟩⟩
    ·rw [if_neg c6] at H
     have c6b0 := beq_eq_false_iff_ne.mpr c6
     have c6b1 := bne_iff_ne.mpr c6
     obtain ⟨c7, H⟩ : (0 ≤ x3_1) ∧ _ := it_ H
     have c7b0 := eq_true c7
     have c7b1 := decide_eq_true c7
     clear c7
     obtain ⟨c8, H⟩ : (x3_1 ≤ (l0.length : Int)) ∧ _ := it_ H
     have c8b0 := eq_true c8
     have c8b1 := decide_eq_true c8
     clear c8
     obtain ⟨y102, hy102⟩ : ∃ y_ : List Int, y_ = (l0.take (x3_1 : Int).toNat) := ⟨_, rfl⟩
     first | rw [Option.bind_some, ← hy102] at H | rw [← hy102] at H
     have Ny102 := ak hy102
     clear hy102
     obtain rfl := Option.some.inj H
     have p101 : 0 ≤ ((ji3) : Int) := od_
     have q101 : (ji3) < (l0.length : Int) := od_
     obtain ⟨ad101, e101, hx101_0⟩ := Kd.at_int (V_reads' HO_0.out).2.2 (ji3) p101 q101
     cases e101
     replace p101 := eq_true p101
     replace q101 := eq_true q101
     have q9 : (x3_1 : Int) ≤ ((l0.length : Int) : Int) := od_
     obtain ⟨i09, hi09, _, hsz9, _⟩ := info_parts info44
     have hroom9 : l0.length ≤ c0 := (V_reads' HO_0.out).2.1
     have hC9 : Kd.F (Kd.int .u32) _ _ (some ad101) l0.length l0 := (V_at (base := w.heap.size) HO_0.out).2.2
     have hcut9 := cutc_to (P := Tryd.prog) 23 44 .i64 Tryd.underlying23 hi09 (some ad101) l0.length c0 x3_1 od_ q9 hroom9
     have hr9 := Kd.F_take (m := (x3_1 : Int).toNat) hC9 (by omega)
     have hy9 : y102.length = (x3_1 : Int).toNat := (by rw [Ny102.out, List.length_take]; omega)
     rw [← Ny102.out] at hr9
     rw [← hy9] at hcut9
     have HO106 := ak (show Kd.V (Kd.int .u32) 44 _ w.heap.size _ (.slice (some ad101) y102.length y102.length) y102 from V_mk (by omega) hr9)
     have HC106 := ak (show y102.length ≤ y102.length from by omega)
     clear hr9 hC9 hroom9 hi09 hsz9
     have KY9 := ak hy9
     clear hy9
     replace q9 := eq_true q9
     go_wp2
     go_ret
     exact ⟨_, by first | rfl | (simp [errW_none, errW_some] <;> rfl) | (simp only [← hji3]; first | rfl | (simp [errW_none, errW_some] <;> rfl)) | (simp [*, errW_none, errW_some] <;> rfl), vU_ HO106.out, bU_ HB.out⟩
   ·rw [if_neg c2] at H
    have c2b0 : decide (0 < x3_1) = false := decide_eq_false c2
    clear c2
    obtain ⟨c10, H⟩ : (0 ≤ x3_1) ∧ _ := it_ H
    have c10b0 := eq_true c10
    have c10b1 := decide_eq_true c10
    clear c10
    obtain ⟨c11, H⟩ : (x3_1 ≤ (l0.length : Int)) ∧ _ := it_ H
    have c11b0 := eq_true c11
    have c11b1 := decide_eq_true c11
    clear c11
    obtain ⟨y107, hy107⟩ : ∃ y_ : List Int, y_ = (l0.take (x3_1 : Int).toNat) := ⟨_, rfl⟩
    first | rw [Option.bind_some, ← hy107] at H | rw [← hy107] at H
    have Ny107 := ak hy107
    clear hy107
    obtain rfl := Option.some.inj H
    have q12 : (x3_1 : Int) ≤ ((l0.length : Int) : Int) := od_
    obtain ⟨i012, hi012, _, hsz12, _⟩ := info_parts info44
    have hroom12 : l0.length ≤ c0 := (V_reads' HO_0.out).2.1
    have hC12 : Kd.F (Kd.int .u32) _ _ A0 l0.length l0 := (V_at (base := w.heap.size) HO_0.out).2.2
    have hcut12 := cutc_to (P := Tryd.prog) 23 44 .i64 Tryd.underlying23 hi012 A0 l0.length c0 x3_1 od_ q12 hroom12
    have hr12 := Kd.F_take (m := (x3_1 : Int).toNat) hC12 (by omega)
    have hy12 : y107.length = (x3_1 : Int).toNat := (by rw [Ny107.out, List.length_take]; omega)
    rw [← Ny107.out] at hr12
    rw [← hy12] at hcut12
    have HO111 := ak (show Kd.V (Kd.int .u32) 44 _ w.heap.size _ (.slice A0 y107.length y107.length) y107 from V_mk (by omega) hr12)
    have HC111 := ak (show y107.length ≤ y107.length from by omega)
    clear hr12 hC12 hroom12 hi012 hsz12
    have KY12 := ak hy12
    clear hy12
    replace q12 := eq_true q12
    go_wp2
    go_ret
    exact ⟨_, eW_, vU_ HO111.out, bU_ HB.out⟩

def ratio_Nat.f (k : Nat) (a0 : Int) : Option (List Int) := (ratio_trim.f k (([(a0) % 4294967296, (a0 / 4294967296) % 4294967296] : List Int))).bind fun t115 => (some t115)
theorem ratio_Nat.mono : ∀ a0 k, LeO (ratio_Nat.f k a0) (ratio_Nat.f (k + 1) a0) := by
 intro a0 k
 unfold ratio_Nat.f
 with_reducible repeat' first | apply ratio_trim.mono | exact LeO.refl _ | exact LeO.none _ | refine LeO.ite ?_ ?_ | refine LeO.bind ?_ (fun _ => ?_)
set_option maxHeartbeats 8000000 in
set_option maxRecDepth 100000 in
theorem ratio_Nat.calls (k : Nat) (a0 : Int) (r : List Int) (w : World) (h : ratio_Nat.f k a0 = some r) :
  Calls Tryd.prog 16 #[.int .u64 a0] w fun e w' => ∃ v0_ : Value, e = .returned (v0_) ∧ Kd.V (Kd.int .u32) 44 w' w.heap.size (fun k_ => (w.heap.size ≤ k_)) v0_ r ∧ Below w.heap.size w w' := by
 have HB := ak (Below.refl w.heap.size w)
 have H := h
 clear h
 unfold ratio_Nat.f at H
 obtain ⟨y112, hy112⟩ : ∃ y_ : List Int, y_ = (([(a0) % 4294967296, (a0 / 4294967296) % 4294967296] : List Int)) := ⟨_, rfl⟩
 replace H : ((ratio_trim.f k y112).bind fun t115 => (some t115)) = some r := by first | (rw [hy112]; with_reducible exact H) | (have H2_ := (Option.bind_some _ _).symm.trans H; rw [hy112]; with_reducible exact H2_) | (have H2_ := (Option.bind_some _ _).symm.trans H; with_reducible exact H2_) | with_reducible exact H | (rw [hy112]; exact H) | exact H
 have Ny112 := ak hy112
 clear hy112
 revert H
 refine bd_ fun t115 A2 H => ?_
 obtain rfl := Option.some.inj H
 go_enter Tryd.func16, Tryd.ntmps16
 go_wp2_with (first | ((with_reducible refine gate_dst (N := 8) rfl ?_); refine R_lit (Kd.int .u32) _ 44 ?hg (N := 8) ?hd (xs := ([(a0) % 4294967296, (a0 / 4294967296) % 4294967296] : List Int)) (inner := [.int .u32 ((a0) % 4294967296), .int .u32 ((a0 / 4294967296) % 4294967296)]) (ok := fun _ => True) (okp := fun _ => True) ?hr ?hp (fun _ hk => hk) trivial (Below.refl _ _) (Nat.le_refl _) (by simp) ?_; (case hd => rfl); (case hg => rfl); (case hr => first | (go_simp; done) | (go_simp; rfl)); (case hp => exact (Reps.one (show Kd.M (Kd.int .u32) _ _ _ ((a0) % 4294967296) [.int .u32 ((a0) % 4294967296)] from rfl) (Reps.one (show Kd.M (Kd.int .u32) _ _ _ ((a0 / 4294967296) % 4294967296) [.int .u32 ((a0 / 4294967296) % 4294967296)] from rfl) (Reps.none _ _)))); intro v113 w3 ho4 hb hg_ hnew_; clear hg_ hnew_; (first | rw [← Ny112.out] at ho4 | (simp only [Int.reduceToNat] at ho4; rw [← Ny112.out] at ho4)); refine nx2_ (R_lower (R_newM (M := fun k_ => (w.heap.size ≤ k_)) ho4 (below_size (bU_ HB.out)) (fun k_ h_ => h_)) (below_size (bU_ HB.out))) (below_step (bU_ HB.out) hb) ?_; clear HB; intro HO114 HB; clear hb ho4; obtain ⟨Ao5, co5, eo5⟩ := R_slice HO114.out; subst eo5) | ((with_reducible refine gate_callee (f := 68) rfl ?_); refine gl_ (some 9) Tryd.func68 #[.slice Ao5 y112.length co5] ?_; (with_reducible refine (ratio_trim.calls k (fun k_ => some k_ = (.slice Ao5 y112.length co5 : Value).ownBlock) _ _ y112 t115 _ ?side1 A2.out).mono ?_); (case side1 => exact R_V (R_tight rfl (HO114.out))); rintro e w6 ⟨v116, rfl, ho0, hb⟩; refine ⟨_, rfl, ?_⟩; refine nx3_ (R_below (rU_ HO114.out) hb) (V_lower (V_mono (ok' := fun k_ => (w.heap.size ≤ k_)) ho0 (fun k_ hk_ => Or.elim hk_ (fun hs_ => ((HO114.out).1 k_ hs_.symm).1) (fun hn_ => (Nat.le_trans (below_size (bU_ HB.out)) hn_)))) (below_size (bU_ HB.out))) (below_step (bU_ HB.out) hb) ?_; clear HO114 HB; intro HO114 HO117 HB; clear hb ho0))
 go_ret
 exact ⟨_, eW_, vU_ HO117.out, bU_ HB.out⟩

def ratio_natural.l0 : Nat → ByteArray → Int → Int → Option (Bool)
 | 0, _, _, _ => none
 | k + 1, x0, x5, x6 => if x6 < x5 then (if 0 ≤ x6 then (if x6 < (x0.size : Int) then (if (bt x0 x6) < 48 then (some false) else (if (bt x0 x6) > 57 then (some false) else (ratio_natural.l0 k x0 x5 (wrap64 (x6 + 1))))) else (none)) else (none)) else (if x0.toList = ([48] : List UInt8) then (some true) else (if x0.toList = ([] : List UInt8) then (some false) else (if 0 < (x0.size : Int) then (some ((bt x0 0) != 48)) else (none))))
def ratio_natural.f (k : Nat) (a0 : ByteArray) : Option (Bool) := ratio_natural.l0 k a0 (a0.size : Int) 0
theorem ratio_natural.mono_l : ∀ k, (∀ y0 y1 y2, LeO (ratio_natural.l0 k y0 y1 y2) (ratio_natural.l0 (k + 1) y0 y1 y2))
 | 0 => fun _ _ _ r h => by simp [ratio_natural.l0] at h
 | k + 1 => by
  have ih0 := ratio_natural.mono_l k
  ·intro y0 y1 y2
   unfold ratio_natural.l0
   with_reducible repeat' first | apply ih0 | exact LeO.refl _ | exact LeO.none _ | refine LeO.ite ?_ ?_ | refine LeO.bind ?_ (fun _ => ?_)
theorem ratio_natural.mono : ∀ a0 k, LeO (ratio_natural.f k a0) (ratio_natural.f (k + 1) a0) := by
 intro a0 k
 have ih0 := ratio_natural.mono_l k
 unfold ratio_natural.f
 with_reducible repeat' first | apply ih0 | exact LeO.refl _ | exact LeO.none _ | refine LeO.ite ?_ ?_ | refine LeO.bind ?_ (fun _ => ?_)
set_option maxHeartbeats 8000000 in
set_option maxRecDepth 100000 in
theorem ratio_natural.calls (k : Nat) (a0 : ByteArray) (r : Bool) (w : World) (h : ratio_natural.f k a0 = some r) :
  Calls Tryd.prog 57 #[.string a0] w fun e w' => e = .returned (.bool r) ∧ Drawn0 w w' := by
 have H : (ratio_natural.l0 k a0 (a0.size : Int) 0) = some r := h
 clear h
 have H' := ak H
 clear H
 go_enter Tryd.func57, Tryd.ntmps57
 go_wp2
 go_loopg [6] k (fun kq v6 w' => ∃ (x6_1 : Int), v6 = .int .i64 x6_1 ∧ Aside0 (ratio_natural.l0 kq a0 (a0.size : Int) x6_1 = some r) ∧ Aside0 (kq ≤ k) ∧ Drawn0 w w')
 case atStart => exact ⟨(0), gb_, H', ⟨Nat.le_refl _⟩, by repeat (first | exact Drawn0.refl _ | apply Drawn0.step)⟩
 case round =>
  clear H'
  obtain ⟨x6_1, rfl, HA, HK1, ⟨m1, rfl⟩⟩ := hrel
  cases gk with
  | zero => exact absurd HA.out (by simp [ratio_natural.l0])
  | succ k1 =>
   have H := HA.out
   clear HA
   simp only [ratio_natural.l0] at H
   by_cases c2 : x6_1 < (a0.size : Int)
   ·rw [if_pos c2] at H
    have c2b0 := decide_eq_true c2
    clear c2
    obtain ⟨c3, H⟩ : (0 ≤ x6_1) ∧ _ := it_ H
    have c3b0 := decide_eq_true c3
    clear c3
    obtain ⟨c4, H⟩ : (x6_1 < (a0.size : Int)) ∧ _ := it_ H
    have c4b0 := decide_eq_true c4
    clear c4
    by_cases c6 : (bt a0 x6_1) < 48
    ·rw [if_pos c6] at H
     have c6b0 := decide_eq_true c6
     clear c6
     obtain rfl := Option.some.inj H
     have p5 : 0 ≤ (x6_1 : Int) := od_
     have q5 : x6_1 < (a0.size : Int) := od_
     have hx5 := bt_at a0 x6_1
     replace p5 := eq_true p5
     replace q5 := eq_true q5
     go_wp2
     go_ret
     exact ⟨by first | rfl | (simp; done) | (simp [*]; done), by repeat (first | exact Drawn0.refl _ | apply Drawn0.step)⟩
    ·rw [if_neg c6] at H
     have c6b0 := decide_eq_false c6
     clear c6
     by_cases c8 : (bt a0 x6_1) > 57
     ·rw [if_pos c8] at H
      have c8b0 : decide (57 < (bt a0 x6_1)) = true := decide_eq_true c8
      clear c8
      obtain rfl := Option.some.inj H
      have p5 : 0 ≤ (x6_1 : Int) := od_
      have q5 : x6_1 < (a0.size : Int) := od_
      have hx5 := bt_at a0 x6_1
      replace p5 := eq_true p5
      replace q5 := eq_true q5
      have p7 : 0 ≤ (x6_1 : Int) := od_
      have q7 : x6_1 < (a0.size : Int) := od_
      have hx7 := bt_at a0 x6_1
      replace p7 := eq_true p7
      replace q7 := eq_true q7
      go_wp2
      go_ret
      exact ⟨by first | rfl | (simp; done) | (simp [*]; done), by repeat (first | exact Drawn0.refl _ | apply Drawn0.step)⟩
     ·rw [if_neg c8] at H
      have c8b0 : decide (57 < (bt a0 x6_1)) = false := decide_eq_false c8
      clear c8
      have H' := ak H
      clear H
      have p5 : 0 ≤ (x6_1 : Int) := od_
      have q5 : x6_1 < (a0.size : Int) := od_
      have hx5 := bt_at a0 x6_1
      replace p5 := eq_true p5
      replace q5 := eq_true q5
      have p7 : 0 ≤ (x6_1 : Int) := od_
      have q7 : x6_1 < (a0.size : Int) := od_
      have hx7 := bt_at a0 x6_1
      replace p7 := eq_true p7
      replace q7 := eq_true q7
      go_wp2
      go_roundg k1
      case measure => have := HK1.out; omega
      case rel => exact ⟨(wrap64 (x6_1 + 1)), gb_, H', ⟨by have := HK1.out; omega⟩, by repeat (first | exact Drawn0.refl _ | apply Drawn0.step)⟩
   ·rw [if_neg c2] at H
    have c2b0 := decide_eq_false c2
    clear c2
    by_cases c9 : a0.toList = ([48] : List UInt8)
    ·rw [if_pos c9] at H
     have c9b0 := beq_iff_eq.mpr c9
     have c9b1 := bne_eq_false_iff_eq.mpr c9
     clear c9
     obtain rfl := Option.some.inj H
     go_wp2
     go_ret
     exact ⟨by first | rfl | (simp; done) | (simp [*]; done), by repeat (first | exact Drawn0.refl _ | apply Drawn0.step)⟩
    ·rw [if_neg c9] at H
     have c9b0 := beq_eq_false_iff_ne.mpr c9
     have c9b1 := bne_iff_ne.mpr c9
     by_cases c10 : a0.toList = ([] : List UInt8)
     ·rw [if_pos c10] at H
      have c10b0 := beq_iff_eq.mpr c10
      have c10b1 := bne_eq_false_iff_eq.mpr c10
      clear c10
      obtain rfl := Option.some.inj H
      go_wp2
      go_ret
      exact ⟨by first | rfl | (simp; done) | (simp [*]; done), by repeat (first | exact Drawn0.refl _ | apply Drawn0.step)⟩
     ·rw [if_neg c10] at H
      have c10b0 := beq_eq_false_iff_ne.mpr c10
      have c10b1 := bne_iff_ne.mpr c10
      obtain ⟨c11, H⟩ : (0 < (a0.size : Int)) ∧ _ := it_ H
      have c11b0 := decide_eq_true c11
      have c11b1 : decide (0 < a0.size) = true := decide_eq_true (by omega)
      clear c11
      obtain rfl := Option.some.inj H
      have p12 : 0 ≤ (0 : Int) := (by omega)
      have q12 : 0 < a0.size := (by have : (0 : Int) < (a0.size : Int) := od_; omega)
      have hx12 : ∀ h : 0 < a0.size, ((a0[0]'h).toNat : Int) = bt a0 0 := bt_at a0 0
      clear p12
      have qi12 : (0 < (a0.size : Int)) = True := eq_true od_
      replace q12 := eq_true q12
      go_wp2
      go_ret
      exact ⟨by first | rfl | (simp; done) | (simp [*]; done), by repeat (first | exact Drawn0.refl _ | apply Drawn0.step)⟩

def bits_Add32.f (a0 : Int) (a1 : Int) (a2 : Int) : Option (Int × Int) := some ((IntKind.u64.wrap ((IntKind.u64.wrap ((IntKind.u64.wrap (a0)) + (IntKind.u64.wrap (a1)))) + (IntKind.u64.wrap (a2)))) % 4294967296, ((IntKind.u64.wrap ((IntKind.u64.wrap ((IntKind.u64.wrap (a0)) + (IntKind.u64.wrap (a1)))) + (IntKind.u64.wrap (a2)))) / 4294967296) % 4294967296)
set_option maxHeartbeats 8000000 in
set_option maxRecDepth 100000 in
theorem bits_Add32.calls (a0 : Int) (a1 : Int) (a2 : Int) (r1 : Int) (r2 : Int) (w : World) (h : bits_Add32.f a0 a1 a2 = some (r1, r2)) :
  Calls Tryd.prog 84 #[.int .u32 a0, .int .u32 a1, .int .u32 a2] w fun e w' => e = .returned (.tuple #[.int .u32 r1, .int .u32 r2]) ∧ Drawn0 w w' := by
 have H := h
 clear h
 unfold bits_Add32.f at H
 simp only [Option.some.injEq, Prod.mk.injEq] at H
 obtain ⟨rfl, rfl⟩ := H
 go_enter Tryd.func84, Tryd.ntmps84
 go_wp2
 go_ret2
 exact ⟨by first | rfl | (simp; done) | (simp [*]; done), by repeat (first | exact Drawn0.refl _ | apply Drawn0.step)⟩

mutual
def ratio_add.j0 : Nat → List Int → List Int → Option (List Int)
 | 0, _, _ => none
 | k + 1, x0, x1 => if 0 ≤ (wrap64 ((x0.length : Int) + 1)) then (if (wrap64 ((x0.length : Int) + 1) : Int).toNat ≤ 70368744177664 then (ratio_add.l0 k x0 x1 (List.replicate (wrap64 ((x0.length : Int) + 1) : Int).toNat 0) 0 (x0.length : Int) 0) else (none)) else (none)
def ratio_add.l0 : Nat → List Int → List Int → List Int → Int → Int → Int → Option (List Int)
 | 0, _, _, _, _, _, _ => none
 | k + 1, x0, x1, x5, x6, x21, x22 => if x22 < x21 then (if x22 < (x1.length : Int) then (if 0 ≤ x22 then (if x22 < (x0.length : Int) then ((bits_Add32.f (rd x0 x22) (rd x1 x22) x6).bind fun bt123 => (if x22 < (x5.length : Int) then (ratio_add.l0 k x0 x1 (x5.set (x22 : Int).toNat bt123.1) bt123.2 x21 (wrap64 (x22 + 1))) else (none))) else (none)) else (none)) else (if 0 ≤ x22 then (if x22 < (x0.length : Int) then ((bits_Add32.f (rd x0 x22) 0 x6).bind fun bt127 => (if x22 < (x5.length : Int) then (ratio_add.l0 k x0 x1 (x5.set (x22 : Int).toNat bt127.1) bt127.2 x21 (wrap64 (x22 + 1))) else (none))) else (none)) else (none))) else (if 0 ≤ (x0.length : Int) then (if (x0.length : Int) < (x5.length : Int) then ((ratio_trim.f k (x5.set ((x0.length : Int) : Int).toNat x6)).bind fun t131 => (some t131)) else (none)) else (none))
end
def ratio_add.f (k : Nat) (l0 : List Int) (l1 : List Int) : Option (List Int) := if (l0.length : Int) < (l1.length : Int) then (ratio_add.j0 k l1 l0) else (ratio_add.j0 k l0 l1)
theorem ratio_add.mono_l : ∀ k, (∀ y0 y1, LeO (ratio_add.j0 k y0 y1) (ratio_add.j0 (k + 1) y0 y1)) ∧ (∀ y0 y1 y2 y3 y4 y5, LeO (ratio_add.l0 k y0 y1 y2 y3 y4 y5) (ratio_add.l0 (k + 1) y0 y1 y2 y3 y4 y5))
 | 0 => ⟨fun _ _ r h => by simp [ratio_add.j0] at h, fun _ _ _ _ _ _ r h => by simp [ratio_add.l0] at h⟩
 | k + 1 => by
  obtain ⟨ih0, ih1⟩ := ratio_add.mono_l k
  refine ⟨?_, ?_⟩
  ·intro y0 y1
   unfold ratio_add.j0
   with_reducible repeat' first | apply ih0 | apply ih1 | apply ratio_trim.mono | exact LeO.refl _ | exact LeO.none _ | refine LeO.ite ?_ ?_ | refine LeO.bind ?_ (fun _ => ?_)
  ·intro y0 y1 y2 y3 y4 y5
   unfold ratio_add.l0
   with_reducible repeat' first | apply ih0 | apply ih1 | apply ratio_trim.mono | exact LeO.refl _ | exact LeO.none _ | refine LeO.ite ?_ ?_ | refine LeO.bind ?_ (fun _ => ?_)
theorem ratio_add.mono : ∀ a0 a1 k, LeO (ratio_add.f k a0 a1) (ratio_add.f (k + 1) a0 a1) := by
 intro a0 a1 k
 obtain ⟨ih0, ih1⟩ := ratio_add.mono_l k
 unfold ratio_add.f
 with_reducible repeat' first | apply ih0 | apply ih1 | apply ratio_trim.mono | exact LeO.refl _ | exact LeO.none _ | refine LeO.ite ?_ ?_ | refine LeO.bind ?_ (fun _ => ?_)
set_option maxHeartbeats 8000000 in
set_option maxRecDepth 100000 in
theorem ratio_add.calls (k : Nat) (P0_ : Nat → Prop) (A0 : Option Addr) (c0 : Nat) (l0 : List Int) (P1_ : Nat → Prop) (A1 : Option Addr) (c1 : Nat) (l1 : List Int) (r : List Int) (w : World) (hs0 : Kd.V (Kd.int .u32) 44 w w.heap.size (fun k_ => P0_ k_) (.slice A0 l0.length c0) l0) (hs1 : Kd.V (Kd.int .u32) 44 w w.heap.size (fun k_ => P1_ k_) (.slice A1 l1.length c1) l1) (h : ratio_add.f k l0 l1 = some r) :
  Calls Tryd.prog 58 #[.slice A0 l0.length c0, .slice A1 l1.length c1] w fun e w' => ∃ v0_ : Value, e = .returned (v0_) ∧ Kd.V (Kd.int .u32) 44 w' w.heap.size (fun k_ => ((P0_ k_ ∨ P1_ k_) ∨ w.heap.size ≤ k_)) v0_ r ∧ Below w.heap.size w w' := by
 have HO0 := ak (show Kd.V (Kd.int .u32) 44 w w.heap.size (fun k_ => ((P0_ k_ ∨ P1_ k_) ∨ w.heap.size ≤ k_)) (.slice A0 l0.length c0) l0 from V_mono hs0 (fun k_ hk => .inl (.inl hk)))
 have HO1 := ak (show Kd.V (Kd.int .u32) 44 w w.heap.size (fun k_ => ((P0_ k_ ∨ P1_ k_) ∨ w.heap.size ≤ k_)) (.slice A1 l1.length c1) l1 from V_mono hs1 (fun k_ hk => .inl (.inr hk)))
 have HB := ak (Below.refl w.heap.size w)
 have H : (if (l0.length : Int) < (l1.length : Int) then (ratio_add.j0 k l1 l0) else (ratio_add.j0 k l0 l1)) = some r := h
 clear h
 have HC3 := ak H
 clear H
 go_enter Tryd.func58, Tryd.ntmps58
 go_upto_if 13 with (fail)
 go_cut [0, 1] (fun v0 v1 wc => ∃ (kq : Nat) (x0_2 : List Int) (x1_2 : List Int), Aside0 (ratio_add.j0 kq x0_2 x1_2 = some r) ∧ Aside0 (kq ≤ k) ∧ Aside0 (Kd.V (Kd.int .u32) 44 wc w.heap.size (fun k_ => ((P0_ k_ ∨ P1_ k_) ∨ w.heap.size ≤ k_)) v0 x0_2) ∧ Aside0 (Kd.V (Kd.int .u32) 44 wc w.heap.size (fun k_ => ((P0_ k_ ∨ P1_ k_) ∨ w.heap.size ≤ k_)) v1 x1_2) ∧ Aside0 (Below w.heap.size w wc))
 case first =>
  have H := HC3.out
  clear HC3
  by_cases c4 : (l0.length : Int) < (l1.length : Int)
  ·rw [if_pos c4] at H
   have c4b0 := decide_eq_true c4
   have c4b1 : decide (l0.length < l1.length) = true := decide_eq_true (Int.ofNat_lt.mp c4)
   clear c4
   (first | rw [c4b0] | (simp only [i64_w, i32_w]; rw [c4b0]) | rw [c4b1] | skip)
   have H' := ak H
   clear H
   go_wp2
   go_meet
   case rel => exact ⟨_, (l1), (l0), H', ⟨by first | omega | exact Nat.le_refl _⟩, ⟨vU_ HO1.out⟩, ⟨vU_ HO0.out⟩, ⟨bU_ HB.out⟩⟩
  ·rw [if_neg c4] at H
   have c4b0 := decide_eq_false c4
   have c4b1 : decide (l0.length < l1.length) = false := decide_eq_false (fun h => c4 (Int.ofNat_lt.mpr h))
   clear c4
   (first | rw [c4b0] | (simp only [i64_w, i32_w]; rw [c4b0]) | rw [c4b1] | skip)
   have H' := ak H
   clear H
   go_wp2
   go_meet
   case rel => exact ⟨_, (l0), (l1), H', ⟨by first | omega | exact Nat.le_refl _⟩, ⟨vU_ HO0.out⟩, ⟨vU_ HO1.out⟩, ⟨bU_ HB.out⟩⟩
 case rest =>
  clear HC3
  (try clear c1); (try clear p2); (try clear c4); (try clear c4b0); (try clear c4b1)
  obtain ⟨kq, x0_2, x1_2, HA, HJ2, HO_0, HO_1, HB⟩ := hcut
  cases kq with
  | zero => exact absurd HA.out (by simp [ratio_add.j0])
  | succ kj2 =>
   have H := HA.out
   clear HA
   simp only [ratio_add.j0] at H
   obtain ⟨ji5, hji5⟩ : ∃ j_ : Int, (wrap64 ((x0_2.length : Int) + 1)) = j_ := ⟨_, rfl⟩
   first | rw [hji5] at H | simp only [hji5] at H
   have hji5w : (IntKind.i64.wrap ((x0_2.length : Int) + 1)) = ji5 := (i64_w _).trans hji5
   obtain ⟨c6, H⟩ : (0 ≤ (ji5)) ∧ _ := it_ H
   have c6b0 := eq_true c6
   have c6b1 := decide_eq_true c6
   clear c6
   obtain ⟨c7, H⟩ : ((ji5 : Int).toNat ≤ 70368744177664) ∧ _ := it_ H
   have c7b0 := eq_true c7
   have c7b1 := decide_eq_true c7
   clear c7
   obtain ⟨y118, hy118⟩ : ∃ y_ : List Int, y_ = (List.replicate (ji5 : Int).toNat 0) := ⟨_, rfl⟩
   first | rw [Option.bind_some, ← hy118] at H | rw [← hy118] at H
   have Ny118 := ak hy118
   clear hy118
   have H' := ak H
   clear H
   obtain ⟨Ao8, co8, eo8⟩ := V_slice HO_0.out
   subst eo8
   go_wp2_with (first | ((with_reducible refine gate_dst (N := 19) rfl ?_); refine R_make (Kd.int .u32) _ 44 rfl (N := 19) rfl 23 _ _ rfl ji5 ?hx ?hy Tryd.underlying23 (.int .u32 0) 4 info44 rfl (by decide) (by omega) 0 (ok := fun _ => True) (okp := fun _ => True) rfl (fun _ hk => hk) trivial od_ (Nat.le_trans (Nat.mul_le_mul_right _ (od_ : ji5.toNat ≤ 70368744177664)) (by omega)) (Below.refl _ _) (Nat.le_refl _) ?_; (case hx => first | rfl | (simp only [hji5]; rfl)); (case hy => first | rfl | (simp only [hji5]; rfl)); intro v119 w9 ho10 hb hg_ hnew_; clear hg_ hnew_; (first | rw [← Ny118.out] at ho10 | (simp only [Int.reduceToNat] at ho10; rw [← Ny118.out] at ho10)); refine nx4_ (V_elder' (vU_ HO_0.out) (R_base ho10) hb) (V_elder' (vU_ HO_1.out) (R_base ho10) hb) (R_lower (R_newM (M := fun k_ => (w.heap.size ≤ k_)) ho10 (below_size (bU_ HB.out)) (fun k_ h_ => h_)) (below_size (bU_ HB.out))) (below_step (bU_ HB.out) hb) ?_; clear HO_0 HO_1 HB; intro HO_0 HO_1 HO120 HB; clear hb ho10))
   go_loopg [6, 22] kj2 (fun kq v6 v22 w' => ∃ (x5_2 : List Int) (x6_2 : Int) (x22_2 : Int), v6 = .int .u32 x6_2 ∧ v22 = .int .i64 x22_2 ∧ Aside0 (ratio_add.l0 kq x0_2 x1_2 x5_2 x6_2 (x0_2.length : Int) x22_2 = some r) ∧ Aside0 (kq ≤ kj2) ∧ Aside0 (Kd.V (Kd.int .u32) 44 w' w.heap.size (fun k_ => ((P0_ k_ ∨ P1_ k_) ∨ w.heap.size ≤ k_) ∧ some k_ ≠ (v119 : Value).ownBlock) (.slice Ao8 x0_2.length co8) x0_2) ∧ Aside0 (Kd.V (Kd.int .u32) 44 w' w.heap.size (fun k_ => ((P0_ k_ ∨ P1_ k_) ∨ w.heap.size ≤ k_) ∧ some k_ ≠ (v119 : Value).ownBlock) u1 x1_2) ∧ Aside0 (Kd.R (Kd.int .u32) 44 w' w.heap.size (fun k_ => (w.heap.size ≤ k_)) v119 x5_2) ∧ Aside0 (Below w.heap.size w w'))
   case atStart => exact ⟨(y118), (0), (0), gb_, gb_, H', ⟨Nat.le_refl _⟩, ⟨vU_ HO_0.out⟩, ⟨vU_ HO_1.out⟩, ⟨R_mono (rU_ HO120.out) (fun _ hk => hk.1)⟩, ⟨bU_ HB.out⟩⟩
   case round =>
    clear H'
    (try clear c1); (try clear p2); (try clear c4); (try clear c4b0); (try clear c4b1); (try clear c5); (try clear c6); (try clear c6b0); (try clear c6b1); (try clear p6); (try clear c7); (try clear c7b0); (try clear c7b1)
    obtain ⟨x5_2, x6_2, x22_2, rfl, rfl, HA, HK2, HO_0, HO_1, HO_5, HB⟩ := hrel
    cases gk with
    | zero => exact absurd HA.out (by simp [ratio_add.l0])
    | succ k2 =>
     have H := HA.out
     clear HA
     simp only [ratio_add.l0] at H
     by_cases c11 : x22_2 < (x0_2.length : Int)
     ·rw [if_pos c11] at H
      have c11b0 := decide_eq_true c11
      clear c11
      by_cases c12 : x22_2 < (x1_2.length : Int)
      ·rw [if_pos c12] at H
       have c12b0 := decide_eq_true c12
       clear c12
       obtain ⟨c13, H⟩ : (0 ≤ x22_2) ∧ _ := it_ H
       have c13b0 := decide_eq_true c13
       clear c13
       obtain ⟨c14, H⟩ : (x22_2 < (x0_2.length : Int)) ∧ _ := it_ H
       have c14b0 := decide_eq_true c14
       clear c14
       revert H
       refine bd2_ fun t123 t124 A15 H => ?_
       try dsimp only at H
       obtain ⟨c16, H⟩ : (x22_2 < (x5_2.length : Int)) ∧ _ := it_ H
       have c16b0 := decide_eq_true c16
       clear c16
       obtain ⟨y125, hy125⟩ : ∃ y_ : List Int, y_ = (x5_2.set (x22_2 : Int).toNat t123) := ⟨_, rfl⟩
       first | rw [Option.bind_some, ← hy125] at H | rw [← hy125] at H
       have Ny125 := ak hy125
       clear hy125
       have H' := ak H
       clear H
       obtain ⟨Ao18, co18, eo18⟩ := V_slice HO_1.out
       subst eo18
       have p121 : 0 ≤ (x22_2 : Int) := od_
       have q121 : x22_2 < (x1_2.length : Int) := od_
       obtain ⟨ad121, e121, hx121_0⟩ := Kd.at_int (V_reads' HO_1.out).2.2 x22_2 p121 q121
       cases e121
       replace p121 := eq_true p121
       replace q121 := eq_true q121
       have p122 : 0 ≤ (x22_2 : Int) := od_
       have q122 : x22_2 < (x0_2.length : Int) := od_
       obtain ⟨ad122, e122, hx122_0⟩ := Kd.at_int (V_reads' HO_0.out).2.2 x22_2 p122 q122
       cases e122
       replace p122 := eq_true p122
       replace q122 := eq_true q122
       go_wp2_with (first | ((with_reducible refine gate_callee (f := 84) rfl ?_); refine gl_ (some 42) Tryd.func84 #[.int .u32 (rd x0_2 x22_2), .int .u32 (rd x1_2 x22_2), .int .u32 x6_2] ?_; (with_reducible refine (bits_Add32.calls (rd x0_2 x22_2) (rd x1_2 x22_2) x6_2 t123 t124 _ A15.out).mono ?_); rintro e w' ⟨rfl, ⟨nd, rfl⟩⟩; refine ⟨_, rfl, ?_⟩; (try (rw [drewN_self wr]; generalize hq_ : World.drewN wr _ = wr; have n0_ : Aside0 (Kd.V (Kd.int .u32) 44 wr w.heap.size (fun k_ => ((P0_ k_ ∨ P1_ k_) ∨ w.heap.size ≤ k_) ∧ some k_ ≠ (v119 : Value).ownBlock) (.slice (some ad122) x0_2.length co8) x0_2) := ⟨by rw [← hq_]; exact (vU_ HO_0.out)⟩; have n1_ : Aside0 (Kd.V (Kd.int .u32) 44 wr w.heap.size (fun k_ => ((P0_ k_ ∨ P1_ k_) ∨ w.heap.size ≤ k_) ∧ some k_ ≠ (v119 : Value).ownBlock) (.slice (some ad121) x1_2.length co18) x1_2) := ⟨by rw [← hq_]; exact (vU_ HO_1.out)⟩; have n2_ : Aside0 (Kd.R (Kd.int .u32) 44 wr w.heap.size (fun k_ => (w.heap.size ≤ k_)) v119 x5_2) := ⟨by rw [← hq_]; exact (rU_ HO_5.out)⟩; have n3_ : Aside0 (Below w.heap.size w wr) := ⟨by rw [← hq_]; exact (bU_ HB.out)⟩; clear HO_0 HO_1 HO_5 HB hq_; have HO_0 := n0_; have HO_1 := n1_; have HO_5 := n2_; have HB := n3_; clear n0_ n1_ n2_ n3_)); have p17 : 0 ≤ (x22_2 : Int) := od_; have q17 : (x22_2 : Int) < ((x5_2.length : Int) : Int) := od_; obtain ⟨go17, co17, eo17, gb17, gl17, cl17, HG17⟩ := Kd.R_form HO_5.out (by omega); (first | cases eo17 | (injection eo17 with ea_ en_ ec_; (first | subst ea_ | (injection ea_ with ea_; subst ea_)); subst ec_; clear en_)); have GB17 := ak gb17; have GG17 := ak HG17; clear gb17 gl17 HG17; obtain ⟨hx17_0, hf17_0⟩ := Kd.R_celln 0 HO_5.out (x22_2 : Int) p17 q17; replace p17 := eq_true p17; replace q17 := eq_true q17; obtain ⟨hy19_, hz19_⟩ := Kd.R_celln 0 HO_5.out (x22_2 : Int) od_ od_; have HP19 := Kd.R_putg HO_5.out (x22_2 : Int) t123) | ((with_reducible refine gate_store (t := 44) (p := 45) rfl ?_); refine store_event (t := 44) (p := 45) (v := ?vo_w20) (w1 := (wr.setCell ⟨go17, (x22_2 : Int).toNat, none⟩ (.int .u32 t123))) ?hg ?ho ?hn ?hr ?_; (case ho => rfl); (case hg => rfl); (case hn => rfl); (case hr => first | (go_simp; done) | (go_simp; rfl)); intro w20 hw; have hg : wr.grownBy w20 (some go17) := (by rw [hw]; exact HP19.2); have hp_ : Kd.R (Kd.int .u32) 44 w20 w.heap.size (fun k_ => (w.heap.size ≤ k_)) (.slice (some ⟨go17, 0, none⟩) x5_2.length co17) y125 := (by rw [hw, Ny125.out]; exact HP19.1); clear HP19; refine nx4_ (Kd.V_afterv (v := (.slice (some ⟨go17, 0, none⟩) x5_2.length co17)) (v1 := (.slice (some ⟨go17, 0, none⟩) x5_2.length co17)) (ok := (fun k_ => ((P0_ k_ ∨ P1_ k_) ∨ w.heap.size ≤ k_))) (vU_ HO_0.out) hg (.inl rfl)) (Kd.V_afterv (v := (.slice (some ⟨go17, 0, none⟩) x5_2.length co17)) (v1 := (.slice (some ⟨go17, 0, none⟩) x5_2.length co17)) (ok := (fun k_ => ((P0_ k_ ∨ P1_ k_) ∨ w.heap.size ≤ k_))) (vU_ HO_1.out) hg (.inl rfl)) (hp_) ((by rw [hw]; exact below_set (HB.out) GB17.out : Below w.heap.size w w20)) ?_; clear HO_0 HO_1 HO_5 HB; intro HO_0 HO_1 HO_5 HB; clear hg hw hp_))
       go_roundg k2
       case measure => have := HJ2.out; have := HK2.out; omega
       case rel => exact ⟨(y125), (t124), (wrap64 (x22_2 + 1)), gb_, gb_, H', ⟨by have := HJ2.out; have := HK2.out; omega⟩, ⟨vU_ HO_0.out⟩, ⟨vU_ HO_1.out⟩, ⟨rU_ HO_5.out⟩, ⟨bU_ HB.out⟩⟩
      ·rw [if_neg c12] at H
       have c12b0 := decide_eq_false c12
       clear c12
       obtain ⟨c21, H⟩ : (0 ≤ x22_2) ∧ _ := it_ H
       have c21b0 := decide_eq_true c21
       clear c21
       obtain ⟨c22, H⟩ : (x22_2 < (x0_2.length : Int)) ∧ _ := it_ H
       have c22b0 := decide_eq_true c22
       clear c22
       revert H
       refine bd2_ fun t127 t128 A23 H => ?_
       try dsimp only at H
       obtain ⟨c24, H⟩ : (x22_2 < (x5_2.length : Int)) ∧ _ := it_ H
       have c24b0 := decide_eq_true c24
       clear c24
       obtain ⟨y129, hy129⟩ : ∃ y_ : List Int, y_ = (x5_2.set (x22_2 : Int).toNat t127) := ⟨_, rfl⟩
       first | rw [Option.bind_some, ← hy129] at H | rw [← hy129] at H
       have Ny129 := ak hy129
       clear hy129
       have H' := ak H
       clear H
       obtain ⟨Ao26, co26, eo26⟩ := V_slice HO_1.out
       subst eo26
       have p126 : 0 ≤ (x22_2 : Int) := od_
       have q126 : x22_2 < (x0_2.length : Int) := od_
       obtain ⟨ad126, e126, hx126_0⟩ := Kd.at_int (V_reads' HO_0.out).2.2 x22_2 p126 q126
       cases e126
       replace p126 := eq_true p126
       replace q126 := eq_true q126
       go_wp2_with (first | ((with_reducible refine gate_callee (f := 84) rfl ?_); refine gl_ (some 42) Tryd.func84 #[.int .u32 (rd x0_2 x22_2), .int .u32 0, .int .u32 x6_2] ?_; (with_reducible refine (bits_Add32.calls (rd x0_2 x22_2) 0 x6_2 t127 t128 _ A23.out).mono ?_); rintro e w' ⟨rfl, ⟨nd, rfl⟩⟩; refine ⟨_, rfl, ?_⟩; (try (rw [drewN_self wr]; generalize hq_ : World.drewN wr _ = wr; have n0_ : Aside0 (Kd.V (Kd.int .u32) 44 wr w.heap.size (fun k_ => ((P0_ k_ ∨ P1_ k_) ∨ w.heap.size ≤ k_) ∧ some k_ ≠ (v119 : Value).ownBlock) (.slice (some ad126) x0_2.length co8) x0_2) := ⟨by rw [← hq_]; exact (vU_ HO_0.out)⟩; have n1_ : Aside0 (Kd.V (Kd.int .u32) 44 wr w.heap.size (fun k_ => ((P0_ k_ ∨ P1_ k_) ∨ w.heap.size ≤ k_) ∧ some k_ ≠ (v119 : Value).ownBlock) (.slice Ao26 x1_2.length co26) x1_2) := ⟨by rw [← hq_]; exact (vU_ HO_1.out)⟩; have n2_ : Aside0 (Kd.R (Kd.int .u32) 44 wr w.heap.size (fun k_ => (w.heap.size ≤ k_)) v119 x5_2) := ⟨by rw [← hq_]; exact (rU_ HO_5.out)⟩; have n3_ : Aside0 (Below w.heap.size w wr) := ⟨by rw [← hq_]; exact (bU_ HB.out)⟩; clear HO_0 HO_1 HO_5 HB hq_; have HO_0 := n0_; have HO_1 := n1_; have HO_5 := n2_; have HB := n3_; clear n0_ n1_ n2_ n3_)); have p25 : 0 ≤ (x22_2 : Int) := od_; have q25 : (x22_2 : Int) < ((x5_2.length : Int) : Int) := od_; obtain ⟨go25, co25, eo25, gb25, gl25, cl25, HG25⟩ := Kd.R_form HO_5.out (by omega); (first | cases eo25 | (injection eo25 with ea_ en_ ec_; (first | subst ea_ | (injection ea_ with ea_; subst ea_)); subst ec_; clear en_)); have GB25 := ak gb25; have GG25 := ak HG25; clear gb25 gl25 HG25; obtain ⟨hx25_0, hf25_0⟩ := Kd.R_celln 0 HO_5.out (x22_2 : Int) p25 q25; replace p25 := eq_true p25; replace q25 := eq_true q25; obtain ⟨hy27_, hz27_⟩ := Kd.R_celln 0 HO_5.out (x22_2 : Int) od_ od_; have HP27 := Kd.R_putg HO_5.out (x22_2 : Int) t127) | ((with_reducible refine gate_store (t := 44) (p := 45) rfl ?_); refine store_event (t := 44) (p := 45) (v := ?vo_w28) (w1 := (wr.setCell ⟨go25, (x22_2 : Int).toNat, none⟩ (.int .u32 t127))) ?hg ?ho ?hn ?hr ?_; (case ho => rfl); (case hg => rfl); (case hn => rfl); (case hr => first | (go_simp; done) | (go_simp; rfl)); intro w28 hw; have hg : wr.grownBy w28 (some go25) := (by rw [hw]; exact HP27.2); have hp_ : Kd.R (Kd.int .u32) 44 w28 w.heap.size (fun k_ => (w.heap.size ≤ k_)) (.slice (some ⟨go25, 0, none⟩) x5_2.length co25) y129 := (by rw [hw, Ny129.out]; exact HP27.1); clear HP27; refine nx4_ (Kd.V_afterv (v := (.slice (some ⟨go25, 0, none⟩) x5_2.length co25)) (v1 := (.slice (some ⟨go25, 0, none⟩) x5_2.length co25)) (ok := (fun k_ => ((P0_ k_ ∨ P1_ k_) ∨ w.heap.size ≤ k_))) (vU_ HO_0.out) hg (.inl rfl)) (Kd.V_afterv (v := (.slice (some ⟨go25, 0, none⟩) x5_2.length co25)) (v1 := (.slice (some ⟨go25, 0, none⟩) x5_2.length co25)) (ok := (fun k_ => ((P0_ k_ ∨ P1_ k_) ∨ w.heap.size ≤ k_))) (vU_ HO_1.out) hg (.inl rfl)) (hp_) ((by rw [hw]; exact below_set (HB.out) GB25.out : Below w.heap.size w w28)) ?_; clear HO_0 HO_1 HO_5 HB; intro HO_0 HO_1 HO_5 HB; clear hg hw hp_))
       go_roundg k2
       case measure => have := HJ2.out; have := HK2.out; omega
       case rel => exact ⟨(y129), (t128), (wrap64 (x22_2 + 1)), gb_, gb_, H', ⟨by have := HJ2.out; have := HK2.out; omega⟩, ⟨vU_ HO_0.out⟩, ⟨vU_ HO_1.out⟩, ⟨rU_ HO_5.out⟩, ⟨bU_ HB.out⟩⟩
     ·rw [if_neg c11] at H
      have c11b0 := decide_eq_false c11
      clear c11
      obtain ⟨c29, H⟩ : (0 ≤ (x0_2.length : Int)) ∧ _ := it_ H
      have c29b0 := decide_eq_true c29
      have c29b1 : decide (0 ≤ x0_2.length) = true := decide_eq_true (by omega)
      clear c29
      obtain ⟨c30, H⟩ : ((x0_2.length : Int) < (x5_2.length : Int)) ∧ _ := it_ H
      have c30b0 := decide_eq_true c30
      have c30b1 : decide (x0_2.length < x5_2.length) = true := decide_eq_true (Int.ofNat_lt.mp c30)
      clear c30
      obtain ⟨y130, hy130⟩ : ∃ y_ : List Int, y_ = (x5_2.set ((x0_2.length : Int) : Int).toNat x6_2) := ⟨_, rfl⟩
      first | rw [Option.bind_some, ← hy130] at H | rw [← hy130] at H
      have Ny130 := ak hy130
      clear hy130
      revert H
      refine bd_ fun t131 A32 H => ?_
      obtain rfl := Option.some.inj H
      have p31 : 0 ≤ ((x0_2.length : Int) : Int) := od_
      have q31 : ((x0_2.length : Int) : Int) < ((x5_2.length : Int) : Int) := od_
      obtain ⟨go31, co31, eo31, gb31, gl31, cl31, HG31⟩ := Kd.R_form HO_5.out (by omega)
      (first | cases eo31 | (injection eo31 with ea_ en_ ec_; (first | subst ea_ | (injection ea_ with ea_; subst ea_)); subst ec_; clear en_))
      have GB31 := ak gb31
      have GG31 := ak HG31
      clear gb31 gl31 HG31
      obtain ⟨hx31_0, hf31_0⟩ := Kd.R_celln 0 HO_5.out ((x0_2.length : Int) : Int) p31 q31
      (try simp only [Int.toNat_natCast] at hx31_0 hf31_0)
      replace p31 := eq_true p31
      replace q31 := eq_true q31
      have HP33 := Kd.R_putg HO_5.out ((x0_2.length : Int) : Int) x6_2
      go_wp2_with (first | ((with_reducible refine gate_store (t := 44) (p := 51) rfl ?_); refine store_event (t := 44) (p := 51) (v := ?vo_w34) (w1 := (wr.setCell ⟨go31, ((x0_2.length : Int) : Int).toNat, none⟩ (.int .u32 x6_2))) ?hg ?ho ?hn ?hr ?_; (case ho => rfl); (case hg => rfl); (case hn => rfl); (case hr => first | (go_simp; done) | (go_simp; rfl)); intro w34 hw; have hg : wr.grownBy w34 (some go31) := (by rw [hw]; exact HP33.2); have hp_ : Kd.R (Kd.int .u32) 44 w34 w.heap.size (fun k_ => (w.heap.size ≤ k_)) (.slice (some ⟨go31, 0, none⟩) x5_2.length co31) y130 := (by rw [hw, Ny130.out]; exact HP33.1); clear HP33; refine nx4_ (Kd.V_afterv (v := (.slice (some ⟨go31, 0, none⟩) x5_2.length co31)) (v1 := (.slice (some ⟨go31, 0, none⟩) x5_2.length co31)) (ok := (fun k_ => ((P0_ k_ ∨ P1_ k_) ∨ w.heap.size ≤ k_))) (vU_ HO_0.out) hg (.inl rfl)) (Kd.V_afterv (v := (.slice (some ⟨go31, 0, none⟩) x5_2.length co31)) (v1 := (.slice (some ⟨go31, 0, none⟩) x5_2.length co31)) (ok := (fun k_ => ((P0_ k_ ∨ P1_ k_) ∨ w.heap.size ≤ k_))) (vU_ HO_1.out) hg (.inl rfl)) (hp_) ((by rw [hw]; exact below_set (HB.out) GB31.out : Below w.heap.size w w34)) ?_; clear HO_0 HO_1 HO_5 HB; intro HO_0 HO_1 HO_5 HB; clear hg hw hp_) | ((with_reducible refine gate_callee (f := 68) rfl ?_); refine goesL_ (some 53) rfl rfl Tryd.func68 (by kernel_rfl) rfl #[.slice (some ⟨go31, 0, none⟩) y130.length co31] rfl (by (try simp only [List.map_toArray, List.map_cons, List.map_nil]); first | done | (rw [show y130.length = x5_2.length from (R_reads' HO_5.out).1.symm] <;> rfl) | rfl | (simp only [List.length_drop, List.length_take]; rfl)) ?_; (with_reducible refine (ratio_trim.calls k2 (fun k_ => some k_ = (.slice (some ⟨go31, 0, none⟩) x5_2.length co31 : Value).ownBlock) _ _ y130 t131 _ ?side1 A32.out).mono ?_); (case side1 => rw [show y130.length = x5_2.length from (R_reads' HO_5.out).1.symm]; exact R_V (R_tight rfl (HO_5.out))); rintro e w35 ⟨v132, rfl, ho0, hb⟩; refine ⟨_, rfl, ?_⟩; refine nx5_ (V_below (vU_ HO_0.out) hb) (V_below (vU_ HO_1.out) hb) (R_below (rU_ HO_5.out) hb) (V_lower (V_mono (ok' := fun k_ => ((P0_ k_ ∨ P1_ k_) ∨ w.heap.size ≤ k_)) ho0 (fun k_ hk_ => Or.elim hk_ (fun hs_ => (.inr (((HO_5.out).1 k_ hs_.symm)))) (fun hn_ => (.inr (Nat.le_trans (below_size (bU_ HB.out)) hn_))))) (below_size (bU_ HB.out))) (below_step (bU_ HB.out) hb) ?_; clear HO_0 HO_1 HO_5 HB; intro HO_0 HO_1 HO_5 HO133 HB; clear hb ho0))
      go_ret
      exact ⟨_, by first | rfl | (simp [errW_none, errW_some] <;> rfl) | (simp only [← hji5]; first | rfl | (simp [errW_none, errW_some] <;> rfl)) | (simp [*, errW_none, errW_some] <;> rfl), vU_ HO133.out, bU_ HB.out⟩

mutual
def ratio_mul.l0 : Nat → List Int → List Int → List Int → Int → Int → Option (List Int)
 | 0, _, _, _, _, _ => none
 | k + 1, x1, x5, x18, x19, x20 => if x20 < x19 then (if 0 ≤ x20 then (if x20 < (x18.length : Int) then (ratio_mul.l1 k x1 x5 x20 (rd x18 x20) 0 x18 x19 x20 x1 (x1.length : Int) 0) else (none)) else (none)) else ((ratio_trim.f k x5).bind fun t137 => (some t137))
def ratio_mul.l1 : Nat → List Int → List Int → Int → Int → Int → List Int → Int → Int → List Int → Int → Int → Option (List Int)
 | 0, _, _, _, _, _, _, _, _, _, _, _ => none
 | k + 1, x1, x5, x6, x7, x8, x18, x19, x20, x25, x26, x27 => if x27 < x26 then (if 0 ≤ x27 then (if x27 < (x25.length : Int) then (if 0 ≤ (wrap64 (x6 + x27)) then (if (wrap64 (x6 + x27)) < (x5.length : Int) then (ratio_mul.l1 k x1 (x5.set ((wrap64 (x6 + x27)) : Int).toNat ((IntKind.u64.wrap ((IntKind.u64.wrap ((IntKind.u64.wrap ((IntKind.u64.wrap (x7)) * (IntKind.u64.wrap (rd x25 x27)))) + (IntKind.u64.wrap (rd x5 (wrap64 (x6 + x27)))))) + x8)) % 4294967296)) x6 x7 ((IntKind.u64.wrap ((IntKind.u64.wrap ((IntKind.u64.wrap ((IntKind.u64.wrap (x7)) * (IntKind.u64.wrap (rd x25 x27)))) + (IntKind.u64.wrap (rd x5 (wrap64 (x6 + x27)))))) + x8)) / 4294967296) x18 x19 x20 x25 x26 (wrap64 (x27 + 1))) else (none)) else (none)) else (none)) else (none)) else (if 0 ≤ (wrap64 (x6 + (x1.length : Int))) then (if (wrap64 (x6 + (x1.length : Int))) < (x5.length : Int) then (ratio_mul.l0 k x1 (x5.set ((wrap64 (x6 + (x1.length : Int))) : Int).toNat ((x8) % 4294967296)) x18 x19 (wrap64 (x20 + 1))) else (none)) else (none))
end
def ratio_mul.f (k : Nat) (l0 : List Int) (l1 : List Int) : Option (List Int) := if 0 ≤ (wrap64 ((l0.length : Int) + (l1.length : Int))) then (if (wrap64 ((l0.length : Int) + (l1.length : Int)) : Int).toNat ≤ 70368744177664 then (ratio_mul.l0 k l1 (List.replicate (wrap64 ((l0.length : Int) + (l1.length : Int)) : Int).toNat 0) l0 (l0.length : Int) 0) else (none)) else (none)
theorem ratio_mul.mono_l : ∀ k, (∀ y0 y1 y2 y3 y4, LeO (ratio_mul.l0 k y0 y1 y2 y3 y4) (ratio_mul.l0 (k + 1) y0 y1 y2 y3 y4)) ∧ (∀ y0 y1 y2 y3 y4 y5 y6 y7 y8 y9 y10, LeO (ratio_mul.l1 k y0 y1 y2 y3 y4 y5 y6 y7 y8 y9 y10) (ratio_mul.l1 (k + 1) y0 y1 y2 y3 y4 y5 y6 y7 y8 y9 y10))
 | 0 => ⟨fun _ _ _ _ _ r h => by simp [ratio_mul.l0] at h, fun _ _ _ _ _ _ _ _ _ _ _ r h => by simp [ratio_mul.l1] at h⟩
 | k + 1 => by
  obtain ⟨ih0, ih1⟩ := ratio_mul.mono_l k
  refine ⟨?_, ?_⟩
  ·intro y0 y1 y2 y3 y4
   unfold ratio_mul.l0
   with_reducible repeat' first | apply ih0 | apply ih1 | apply ratio_trim.mono | exact LeO.refl _ | exact LeO.none _ | refine LeO.ite ?_ ?_ | refine LeO.bind ?_ (fun _ => ?_)
  ·intro y0 y1 y2 y3 y4 y5 y6 y7 y8 y9 y10
   unfold ratio_mul.l1
   with_reducible repeat' first | apply ih0 | apply ih1 | apply ratio_trim.mono | exact LeO.refl _ | exact LeO.none _ | refine LeO.ite ?_ ?_ | refine LeO.bind ?_ (fun _ => ?_)
theorem ratio_mul.mono : ∀ a0 a1 k, LeO (ratio_mul.f k a0 a1) (ratio_mul.f (k + 1) a0 a1) := by
 intro a0 a1 k
 obtain ⟨ih0, ih1⟩ := ratio_mul.mono_l k
 unfold ratio_mul.f
 with_reducible repeat' first | apply ih0 | apply ih1 | apply ratio_trim.mono | exact LeO.refl _ | exact LeO.none _ | refine LeO.ite ?_ ?_ | refine LeO.bind ?_ (fun _ => ?_)
set_option maxHeartbeats 8000000 in
set_option maxRecDepth 100000 in
theorem ratio_mul.calls (k : Nat) (A0 : Option Addr) (c0 : Nat) (l0 : List Int) (A1 : Option Addr) (c1 : Nat) (l1 : List Int) (r : List Int) (w : World) (hr0 : Kd.C (Kd.int .u32) w A0 l0.length l0) (hc0 : l0.length ≤ c0) (hr1 : Kd.C (Kd.int .u32) w A1 l1.length l1) (hc1 : l1.length ≤ c1) (h : ratio_mul.f k l0 l1 = some r) :
  Calls Tryd.prog 59 #[.slice A0 l0.length c0, .slice A1 l1.length c1] w fun e w' => ∃ v0_ : Value, e = .returned (v0_) ∧ Kd.V (Kd.int .u32) 44 w' w.heap.size (fun k_ => (w.heap.size ≤ k_)) v0_ r ∧ Below w.heap.size w w' := by
 have HR0 := ak hr0
 have HC0 := ak hc0
 clear hr0 hc0
 have HR1 := ak hr1
 have HC1 := ak hc1
 clear hr1 hc1
 have HB := ak (Below.refl w.heap.size w)
 have H := h
 clear h
 unfold ratio_mul.f at H
 obtain ⟨ji3, hji3⟩ : ∃ j_ : Int, (wrap64 ((l0.length : Int) + (l1.length : Int))) = j_ := ⟨_, rfl⟩
 first | rw [hji3] at H | simp only [hji3] at H
 have hji3w : (IntKind.i64.wrap ((l0.length : Int) + (l1.length : Int))) = ji3 := (i64_w _).trans hji3
 obtain ⟨c4, H⟩ : (0 ≤ (ji3)) ∧ _ := it_ H
 have c4b0 := eq_true c4
 have c4b1 := decide_eq_true c4
 clear c4
 obtain ⟨c5, H⟩ : ((ji3 : Int).toNat ≤ 70368744177664) ∧ _ := it_ H
 have c5b0 := eq_true c5
 have c5b1 := decide_eq_true c5
 clear c5
 obtain ⟨y134, hy134⟩ : ∃ y_ : List Int, y_ = (List.replicate (ji3 : Int).toNat 0) := ⟨_, rfl⟩
 first | rw [Option.bind_some, ← hy134] at H | rw [← hy134] at H
 have Ny134 := ak hy134
 clear hy134
 have H' := ak H
 clear H
 go_enter Tryd.func59, Tryd.ntmps59
 go_wp2_with (first | ((with_reducible refine gate_dst (N := 17) rfl ?_); refine R_make (Kd.int .u32) _ 44 rfl (N := 17) rfl 23 _ _ rfl ji3 ?hx ?hy Tryd.underlying23 (.int .u32 0) 4 info44 rfl (by decide) (by omega) 0 (ok := fun _ => True) (okp := fun _ => True) rfl (fun _ hk => hk) trivial od_ (Nat.le_trans (Nat.mul_le_mul_right _ (od_ : ji3.toNat ≤ 70368744177664)) (by omega)) (Below.refl _ _) (Nat.le_refl _) ?_; (case hx => first | rfl | (simp only [hji3]; rfl)); (case hy => first | rfl | (simp only [hji3]; rfl)); intro v135 w6 ho7 hb hg_ hnew_; clear hg_ hnew_; (first | rw [← Ny134.out] at ho7 | (simp only [Int.reduceToNat] at ho7; rw [← Ny134.out] at ho7)); refine nx2_ (R_lower (R_newM (M := fun k_ => (w.heap.size ≤ k_)) ho7 (below_size (bU_ HB.out)) (fun k_ h_ => h_)) (below_size (bU_ HB.out))) (below_step (bU_ HB.out) hb) ?_; clear HB; intro HO136 HB; clear hb ho7))
 go_loopg [20] k (fun kq v20 w' => ∃ (x5_1 : List Int) (x20_1 : Int), v20 = .int .i64 x20_1 ∧ Aside0 (ratio_mul.l0 kq l1 x5_1 l0 (l0.length : Int) x20_1 = some r) ∧ Aside0 (kq ≤ k) ∧ Aside0 (Kd.R (Kd.int .u32) 44 w' w.heap.size (fun k_ => (w.heap.size ≤ k_)) v135 x5_1) ∧ Aside0 (Below w.heap.size w w'))
 case atStart => exact ⟨(y134), (0), gb_, H', ⟨Nat.le_refl _⟩, ⟨R_mono (rU_ HO136.out) (fun _ hk => hk.1)⟩, ⟨bU_ HB.out⟩⟩
 case round =>
  clear H'
  (try clear c1); (try clear p2); (try clear c4); (try clear c4b0); (try clear c4b1); (try clear c5); (try clear c5b0); (try clear c5b1); (try clear p6)
  obtain ⟨x5_1, x20_1, rfl, HA, HK1, HO_5, HB⟩ := hrel
  cases gk with
  | zero => exact absurd HA.out (by simp [ratio_mul.l0])
  | succ k1 =>
   have H := HA.out
   clear HA
   simp only [ratio_mul.l0] at H
   by_cases c8 : x20_1 < (l0.length : Int)
   ·rw [if_pos c8] at H
    have c8b0 := decide_eq_true c8
    clear c8
    obtain ⟨c9, H⟩ : (0 ≤ x20_1) ∧ _ := it_ H
    have c9b0 := decide_eq_true c9
    clear c9
    obtain ⟨c10, H⟩ : (x20_1 < (l0.length : Int)) ∧ _ := it_ H
    have c10b0 := decide_eq_true c10
    clear c10
    have H' := ak H
    clear H
    have p140 : 0 ≤ (x20_1 : Int) := od_
    have q140 : x20_1 < (l0.length : Int) := od_
    obtain ⟨ad140, e140, hx140_0⟩ := Kd.at_int HR0.out x20_1 p140 q140
    cases e140
    replace hx140_0 := (HB.out.cell (World.block_lt_of_cell? w _ hx140_0)).trans hx140_0
    replace p140 := eq_true p140
    replace q140 := eq_true q140
    go_wp2
    go_loopg [8, 27] k1 (fun kq v8 v27 w' => ∃ (x5_2 : List Int) (x8_2 : Int) (x27_2 : Int), v8 = .int .u64 x8_2 ∧ v27 = .int .i64 x27_2 ∧ Aside0 (ratio_mul.l1 kq l1 x5_2 x20_1 (rd l0 x20_1) x8_2 l0 (l0.length : Int) x20_1 l1 (l1.length : Int) x27_2 = some r) ∧ Aside0 (kq ≤ k1) ∧ Aside0 (Kd.R (Kd.int .u32) 44 w' w.heap.size (fun k_ => (w.heap.size ≤ k_)) v135 x5_2) ∧ Aside0 (Below w.heap.size w w'))
    case atStart => exact ⟨(x5_1), (0), (0), gb_, gb_, H', ⟨Nat.le_refl _⟩, ⟨rU_ HO_5.out⟩, ⟨bU_ HB.out⟩⟩
    case round =>
     clear H'
     (try clear c1); (try clear p1); (try clear q1); (try clear hx1); (try clear p2); (try clear c4); (try clear c4b0); (try clear c4b1); (try clear c5); (try clear c5b0); (try clear c5b1); (try clear p6); (try clear c8); (try clear c8b0); (try clear c9); (try clear c9b0); (try clear c10); (try clear c10b0); (try clear hx140_0); (try clear p140); (try clear q140)
     obtain ⟨x5_2, x8_2, x27_2, rfl, rfl, HA, HK2, HO_5, HB⟩ := hrel
     cases gk with
     | zero => exact absurd HA.out (by simp [ratio_mul.l1])
     | succ k2 =>
      have H := HA.out
      clear HA
      simp only [ratio_mul.l1] at H
      by_cases c11 : x27_2 < (l1.length : Int)
      ·rw [if_pos c11] at H
       have c11b0 := decide_eq_true c11
       clear c11
       obtain ⟨c12, H⟩ : (0 ≤ x27_2) ∧ _ := it_ H
       have c12b0 := decide_eq_true c12
       clear c12
       obtain ⟨c13, H⟩ : (x27_2 < (l1.length : Int)) ∧ _ := it_ H
       have c13b0 := decide_eq_true c13
       clear c13
       obtain ⟨ji14, hji14⟩ : ∃ j_ : Int, (wrap64 (x20_1 + x27_2)) = j_ := ⟨_, rfl⟩
       first | rw [hji14] at H | simp only [hji14] at H
       have hji14w : (IntKind.i64.wrap (x20_1 + x27_2)) = ji14 := (i64_w _).trans hji14
       obtain ⟨c15, H⟩ : (0 ≤ (ji14)) ∧ _ := it_ H
       have c15b0 := decide_eq_true c15
       clear c15
       obtain ⟨c16, H⟩ : ((ji14) < (x5_2.length : Int)) ∧ _ := it_ H
       have c16b0 := decide_eq_true c16
       clear c16
       obtain ⟨y143, hy143⟩ : ∃ y_ : List Int, y_ = (x5_2.set ((ji14) : Int).toNat ((IntKind.u64.wrap ((IntKind.u64.wrap ((IntKind.u64.wrap ((IntKind.u64.wrap ((rd l0 x20_1))) * (IntKind.u64.wrap (rd l1 x27_2)))) + (IntKind.u64.wrap (rd x5_2 (ji14))))) + x8_2)) % 4294967296)) := ⟨_, rfl⟩
       first | rw [Option.bind_some, ← hy143] at H | rw [← hy143] at H
       have Ny143 := ak hy143
       clear hy143
       have H' := ak H
       clear H
       have p141 : 0 ≤ (x27_2 : Int) := od_
       have q141 : x27_2 < (l1.length : Int) := od_
       obtain ⟨ad141, e141, hx141_0⟩ := Kd.at_int HR1.out x27_2 p141 q141
       cases e141
       replace hx141_0 := (HB.out.cell (World.block_lt_of_cell? w _ hx141_0)).trans hx141_0
       replace p141 := eq_true p141
       replace q141 := eq_true q141
       obtain ⟨Ao19, co19, eo19⟩ := R_slice HO_5.out
       subst eo19
       have pfr18 : 0 ≤ ((ji14) : Int) := od_
       have qfr18 : ((ji14) : Int) < ((x5_2.length : Int) : Int) := od_
       obtain ⟨gofr18, cofr18, eofr18, gbfr18, glfr18, clfr18, HGfr18⟩ := Kd.R_form HO_5.out (by omega)
       (first | cases eofr18 | (injection eofr18 with ea_ en_ ec_; (first | subst ea_ | (injection ea_ with ea_; subst ea_)); subst ec_; clear en_))
       have GBfr18 := ak gbfr18
       have GGfr18 := ak HGfr18
       clear gbfr18 glfr18 HGfr18
       clear pfr18 qfr18
       have p142 : 0 ≤ ((ji14) : Int) := od_
       have q142 : (ji14) < (x5_2.length : Int) := od_
       obtain ⟨ad142, e142, hx142_0⟩ := Kd.at_int (R_reads' HO_5.out).2.2 (ji14) p142 q142
       obtain rfl : (⟨gofr18, 0, none⟩ : Addr) = ad142 := (by injection e142)
       (first | simp only [add_plain] at hx142_0 | simp only [add_at] at hx142_0 | simp only [Addr.add, Nat.zero_add] at hx142_0 | skip)
       replace p142 := eq_true p142
       replace q142 := eq_true q142
       have p17 : 0 ≤ ((ji14) : Int) := od_
       have q17 : ((ji14) : Int) < ((x5_2.length : Int) : Int) := od_
       obtain ⟨hx17_0, hf17_0⟩ := Kd.R_celln 0 HO_5.out ((ji14) : Int) p17 q17
       replace p17 := eq_true p17
       replace q17 := eq_true q17
       have HP20 := Kd.R_putg HO_5.out ((ji14) : Int) ((IntKind.u64.wrap ((IntKind.u64.wrap ((IntKind.u64.wrap ((IntKind.u64.wrap ((rd l0 x20_1))) * (IntKind.u64.wrap (rd l1 x27_2)))) + (IntKind.u64.wrap (rd x5_2 (ji14))))) + x8_2)) % 4294967296)
       go_wp2_with (first | ((with_reducible refine gate_store (t := 44) (p := 55) rfl ?_); refine store_event (t := 44) (p := 55) (v := ?vo_w21) (w1 := (wr.setCell ⟨gofr18, ((ji14) : Int).toNat, none⟩ (.int .u32 ((IntKind.u64.wrap ((IntKind.u64.wrap ((IntKind.u64.wrap ((IntKind.u64.wrap ((rd l0 x20_1))) * (IntKind.u64.wrap (rd l1 x27_2)))) + (IntKind.u64.wrap (rd x5_2 (ji14))))) + x8_2)) % 4294967296)))) ?hg ?ho ?hn ?hr ?_; (case ho => rfl); (case hg => rfl); (case hn => rfl); (case hr => first | (go_simp; done) | (go_simp; rfl)); intro w21 hw; have hg : wr.grownBy w21 (some gofr18) := (by rw [hw]; exact HP20.2); have hp_ : Kd.R (Kd.int .u32) 44 w21 w.heap.size (fun k_ => (w.heap.size ≤ k_)) (.slice (some ⟨gofr18, 0, none⟩) x5_2.length co19) y143 := (by rw [hw, Ny143.out]; exact HP20.1); clear HP20; refine nx2_ (hp_) ((by rw [hw]; exact below_set (HB.out) GBfr18.out : Below w.heap.size w w21)) ?_; clear HO_5 HB; intro HO_5 HB; clear hg hw hp_))
       go_roundg k2
       case measure => have := HK1.out; have := HK2.out; omega
       case rel => exact ⟨(y143), ((IntKind.u64.wrap ((IntKind.u64.wrap ((IntKind.u64.wrap ((IntKind.u64.wrap ((rd l0 x20_1))) * (IntKind.u64.wrap (rd l1 x27_2)))) + (IntKind.u64.wrap (rd x5_2 (ji14))))) + x8_2)) / 4294967296), (wrap64 (x27_2 + 1)), (by first | rfl | (simp; done) | (simp only [← hji14] <;> (first | rfl | simp)) | (simp [*]; done)), gb_, H', ⟨by have := HK1.out; have := HK2.out; omega⟩, ⟨rU_ HO_5.out⟩, ⟨bU_ HB.out⟩⟩
      ·rw [if_neg c11] at H
       have c11b0 := decide_eq_false c11
       clear c11
       obtain ⟨ji22, hji22⟩ : ∃ j_ : Int, (wrap64 (x20_1 + (l1.length : Int))) = j_ := ⟨_, rfl⟩
       first | rw [hji22] at H | simp only [hji22] at H
       have hji22w : (IntKind.i64.wrap (x20_1 + (l1.length : Int))) = ji22 := (i64_w _).trans hji22
       obtain ⟨c23, H⟩ : (0 ≤ (ji22)) ∧ _ := it_ H
       have c23b0 := decide_eq_true c23
       clear c23
       obtain ⟨c24, H⟩ : ((ji22) < (x5_2.length : Int)) ∧ _ := it_ H
       have c24b0 := decide_eq_true c24
       clear c24
       obtain ⟨y144, hy144⟩ : ∃ y_ : List Int, y_ = (x5_2.set ((ji22) : Int).toNat ((x8_2) % 4294967296)) := ⟨_, rfl⟩
       first | rw [Option.bind_some, ← hy144] at H | rw [← hy144] at H
       have Ny144 := ak hy144
       clear hy144
       have H' := ak H
       clear H
       have p25 : 0 ≤ ((ji22) : Int) := od_
       have q25 : ((ji22) : Int) < ((x5_2.length : Int) : Int) := od_
       obtain ⟨go25, co25, eo25, gb25, gl25, cl25, HG25⟩ := Kd.R_form HO_5.out (by omega)
       (first | cases eo25 | (injection eo25 with ea_ en_ ec_; (first | subst ea_ | (injection ea_ with ea_; subst ea_)); subst ec_; clear en_))
       have GB25 := ak gb25
       have GG25 := ak HG25
       clear gb25 gl25 HG25
       obtain ⟨hx25_0, hf25_0⟩ := Kd.R_celln 0 HO_5.out ((ji22) : Int) p25 q25
       replace p25 := eq_true p25
       replace q25 := eq_true q25
       have HP26 := Kd.R_putg HO_5.out ((ji22) : Int) ((x8_2) % 4294967296)
       go_wp2_with (first | ((with_reducible refine gate_store (t := 44) (p := 64) rfl ?_); refine store_event (t := 44) (p := 64) (v := ?vo_w27) (w1 := (wr.setCell ⟨go25, ((ji22) : Int).toNat, none⟩ (.int .u32 ((x8_2) % 4294967296)))) ?hg ?ho ?hn ?hr ?_; (case ho => rfl); (case hg => rfl); (case hn => rfl); (case hr => first | (go_simp; done) | (go_simp; rfl)); intro w27 hw; have hg : wr.grownBy w27 (some go25) := (by rw [hw]; exact HP26.2); have hp_ : Kd.R (Kd.int .u32) 44 w27 w.heap.size (fun k_ => (w.heap.size ≤ k_)) (.slice (some ⟨go25, 0, none⟩) x5_2.length co25) y144 := (by rw [hw, Ny144.out]; exact HP26.1); clear HP26; refine nx2_ (hp_) ((by rw [hw]; exact below_set (HB.out) GB25.out : Below w.heap.size w w27)) ?_; clear HO_5 HB; intro HO_5 HB; clear hg hw hp_))
       go_roundg k2
       case measure => have := HK1.out; have := HK2.out; omega
       case rel => exact ⟨(y144), (wrap64 (x20_1 + 1)), gb_, H', ⟨by have := HK1.out; have := HK2.out; omega⟩, ⟨rU_ HO_5.out⟩, ⟨bU_ HB.out⟩⟩
   ·rw [if_neg c8] at H
    have c8b0 := decide_eq_false c8
    clear c8
    revert H
    refine bd_ fun t137 A28 H => ?_
    obtain rfl := Option.some.inj H
    obtain ⟨Ao29, co29, eo29⟩ := R_slice HO_5.out
    subst eo29
    go_wp2_with (first | ((with_reducible refine gate_callee (f := 68) rfl ?_); refine gl_ (some 67) Tryd.func68 #[.slice Ao29 x5_1.length co29] ?_; (with_reducible refine (ratio_trim.calls k1 (fun k_ => some k_ = (.slice Ao29 x5_1.length co29 : Value).ownBlock) _ _ x5_1 t137 _ ?side1 A28.out).mono ?_); (case side1 => exact R_V (R_tight rfl (HO_5.out))); rintro e w30 ⟨v138, rfl, ho0, hb⟩; refine ⟨_, rfl, ?_⟩; refine nx3_ (R_below (rU_ HO_5.out) hb) (V_lower (V_mono (ok' := fun k_ => (w.heap.size ≤ k_)) ho0 (fun k_ hk_ => Or.elim hk_ (fun hs_ => ((HO_5.out).1 k_ hs_.symm)) (fun hn_ => (Nat.le_trans (below_size (bU_ HB.out)) hn_)))) (below_size (bU_ HB.out))) (below_step (bU_ HB.out) hb) ?_; clear HO_5 HB; intro HO_5 HO139 HB; clear hb ho0))
    go_ret
    exact ⟨_, by first | rfl | (simp [errW_none, errW_some] <;> rfl) | (simp only [← hji3]; first | rfl | (simp [errW_none, errW_some] <;> rfl)) | (simp [*, errW_none, errW_some] <;> rfl), vU_ HO139.out, bU_ HB.out⟩

def ratio_bounded.f (l0 : List Int) : Option (List Int × Int) := if (l0.length : Int) > 64 then (some (([] : List Int), 3)) else (some (l0, 0))
set_option maxHeartbeats 8000000 in
set_option maxRecDepth 100000 in
theorem ratio_bounded.calls (P0_ : Nat → Prop) (A0 : Option Addr) (c0 : Nat) (l0 : List Int) (r1 : List Int) (r2 : Int) (w : World) (hs0 : Kd.V (Kd.int .u32) 44 w w.heap.size (fun k_ => P0_ k_) (.slice A0 l0.length c0) l0) (h : ratio_bounded.f l0 = some (r1, r2)) :
  Calls Tryd.prog 60 #[.slice A0 l0.length c0] w fun e w' => ∃ v0_ : Value, e = .returned (.tuple #[v0_, .int .i64 r2]) ∧ Kd.V (Kd.int .u32) 44 w' w.heap.size (fun k_ => (P0_ k_ ∨ w.heap.size ≤ k_)) v0_ r1 ∧ Below w.heap.size w w' := by
 have HO0 := ak (show Kd.V (Kd.int .u32) 44 w w.heap.size (fun k_ => (P0_ k_ ∨ w.heap.size ≤ k_)) (.slice A0 l0.length c0) l0 from V_mono hs0 (fun k_ hk => .inl hk))
 have HB := ak (Below.refl w.heap.size w)
 have H : (if (l0.length : Int) > 64 then (some (([] : List Int), 3)) else (some (l0, 0))) = some (r1, r2) := h
 clear h
 by_cases c2 : (l0.length : Int) > 64
 ·rw [if_pos c2] at H
  have c2b0 : decide (64 < (l0.length : Int)) = true := decide_eq_true c2
  have c2b1 : decide (64 < l0.length) = true := decide_eq_true (by omega)
  clear c2
  simp only [Option.some.injEq, Prod.mk.injEq] at H
  obtain ⟨rfl, rfl⟩ := H
  go_enter Tryd.func60, Tryd.ntmps60
  go_wp2
  go_ret2
  exact ⟨_, eW_, Kd.V_nil _ _ _ _ _, bU_ HB.out⟩
 ·rw [if_neg c2] at H
  have c2b0 : decide (64 < (l0.length : Int)) = false := decide_eq_false c2
  have c2b1 : decide (64 < l0.length) = false := decide_eq_false (by omega)
  clear c2
  simp only [Option.some.injEq, Prod.mk.injEq] at H
  obtain ⟨rfl, rfl⟩ := H
  go_enter Tryd.func60, Tryd.ntmps60
  go_wp2
  go_ret2
  exact ⟨_, eW_, vU_ HO0.out, bU_ HB.out⟩

mutual
def ratio_Parse.l0 : Nat → ByteArray → List Int → Int → Option (List Int × Int)
 | 0, _, _, _ => none
 | k + 1, x0, x4, x5 => if x5 < (x0.size : Int) then (ratio_Parse.j1 k x0 x4 x5 (decide ((x4.length : Int) ≤ 64))) else (ratio_Parse.j1 k x0 x4 x5 false)
def ratio_Parse.j1 : Nat → ByteArray → List Int → Int → Bool → Option (List Int × Int)
 | 0, _, _, _, _ => none
 | k + 1, x0, x4, x5, x17 => if x17 = true then ((ratio_mul.f k x4 (([10] : List Int))).bind fun t149 => (if 0 ≤ x5 then (if x5 < (x0.size : Int) then ((ratio_Nat.f k (((bt x0 x5) - 48) % 256)).bind fun t152 => ((ratio_add.f k t149 t152).bind fun t155 => (ratio_Parse.l0 k x0 t155 (wrap64 (x5 + 1))))) else (none)) else (none))) else ((ratio_bounded.f x4).bind fun bt158 => (some (bt158.1, bt158.2)))
end
def ratio_Parse.f (k : Nat) (a0 : ByteArray) : Option (List Int × Int) := (ratio_natural.f k a0).bind fun t145 => (if t145 = true then (ratio_Parse.l0 k a0 ([] : List Int) 0) else (some (([] : List Int), 4)))
theorem ratio_Parse.mono_l : ∀ k, (∀ y0 y1 y2, LeO (ratio_Parse.l0 k y0 y1 y2) (ratio_Parse.l0 (k + 1) y0 y1 y2)) ∧ (∀ y0 y1 y2 y3, LeO (ratio_Parse.j1 k y0 y1 y2 y3) (ratio_Parse.j1 (k + 1) y0 y1 y2 y3))
 | 0 => ⟨fun _ _ _ r h => by simp [ratio_Parse.l0] at h, fun _ _ _ _ r h => by simp [ratio_Parse.j1] at h⟩
 | k + 1 => by
  obtain ⟨ih0, ih1⟩ := ratio_Parse.mono_l k
  refine ⟨?_, ?_⟩
  ·intro y0 y1 y2
   unfold ratio_Parse.l0
   with_reducible repeat' first | apply ih0 | apply ih1 | apply ratio_Nat.mono | apply ratio_add.mono | apply ratio_mul.mono | apply ratio_natural.mono | exact LeO.refl _ | exact LeO.none _ | refine LeO.ite ?_ ?_ | refine LeO.bind ?_ (fun _ => ?_)
  ·intro y0 y1 y2 y3
   unfold ratio_Parse.j1
   with_reducible repeat' first | apply ih0 | apply ih1 | apply ratio_Nat.mono | apply ratio_add.mono | apply ratio_mul.mono | apply ratio_natural.mono | exact LeO.refl _ | exact LeO.none _ | refine LeO.ite ?_ ?_ | refine LeO.bind ?_ (fun _ => ?_)
theorem ratio_Parse.mono : ∀ a0 k, LeO (ratio_Parse.f k a0) (ratio_Parse.f (k + 1) a0) := by
 intro a0 k
 obtain ⟨ih0, ih1⟩ := ratio_Parse.mono_l k
 unfold ratio_Parse.f
 with_reducible repeat' first | apply ih0 | apply ih1 | apply ratio_Nat.mono | apply ratio_add.mono | apply ratio_mul.mono | apply ratio_natural.mono | exact LeO.refl _ | exact LeO.none _ | refine LeO.ite ?_ ?_ | refine LeO.bind ?_ (fun _ => ?_)
def ratio_Parse.T7 : Bool × List (List Nat × List Nat) := (true, [([], []), ([], []), ([0, 1], [0, 1]), ([], []), ([], []), ([3, 4], [3, 4]), ([5], [5]), ([6], [6]), ([7, 2], [7]), ([2, 8, 8], [2, 8]), ([9, 9, 0, 1, 2, 3, 4, 5, 6, 7, 8, 9], [0, 9])])
def ratio_Parse.B7 : List Nat := [0, 0, 3, 0, 0, 24, 56, 120, 255, 511, 1023]
theorem ratio_Parse.tab7 : rtab .any (opsOf Tryd.f11 7) = ratio_Parse.T7 := by kernel_rfl
theorem ratio_Parse.bits7 : waitsOk ratio_Parse.T7.2 ratio_Parse.B7 = true := by kernel_rfl
set_option maxHeartbeats 8000000 in
set_option maxRecDepth 100000 in
theorem ratio_Parse.calls (k : Nat) (a0 : ByteArray) (r1 : List Int) (r2 : Int) (w : World) (h : ratio_Parse.f k a0 = some (r1, r2)) :
  Calls Tryd.prog 11 #[.string a0] w fun e w' => ∃ v0_ : Value, e = .returned (.tuple #[v0_, .int .i64 r2]) ∧ Kd.V (Kd.int .u32) 44 w' w.heap.size (fun k_ => (w.heap.size ≤ k_)) v0_ r1 ∧ Below w.heap.size w w' := by
 have HB := ak (Below.refl w.heap.size w)
 have H := h
 clear h
 unfold ratio_Parse.f at H
 revert H
 refine bd_ fun t145 A2 H => ?_
 by_cases c3 : t145 = true
 ·subst c3
  rw [if_pos rfl] at H
  have H' := ak H
  clear H
  go_enter Tryd.func11, Tryd.ntmps11
  go_wp2_with (first | ((with_reducible refine gate_callee (f := 57) rfl ?_); refine gl_ (some 7) Tryd.func57 #[.string a0] ?_; (with_reducible refine (ratio_natural.calls k a0 true _ A2.out).mono ?_); rintro e w' ⟨rfl, ⟨nd, rfl⟩⟩; refine ⟨_, rfl, ?_⟩))
  go_loopg [4, 5] k (fun kq v4 v5 w' => ∃ (x4_1 : List Int) (x5_1 : Int), v5 = .int .i64 x5_1 ∧ Aside0 (ratio_Parse.l0 kq a0 x4_1 x5_1 = some (r1, r2)) ∧ Aside0 (kq ≤ k) ∧ Aside0 (Kd.V (Kd.int .u32) 44 w' w.heap.size (fun k_ => (w.heap.size ≤ k_)) v4 x4_1) ∧ Aside0 (Below w.heap.size w w'))
  case atStart => exact ⟨(([] : List Int)), (0), gb_, H', ⟨Nat.le_refl _⟩, ⟨Kd.V_nil _ _ _ _ _⟩, ⟨bU_ HB.out⟩⟩
  case round =>
   clear H'
   (try clear c1); (try clear p2); (try clear c3)
   obtain ⟨x4_1, x5_1, rfl, HA, HK1, HO_4, HB⟩ := hrel
   cases gk with
   | zero => exact absurd HA.out (by simp [ratio_Parse.l0])
   | succ k1 =>
    have H := HA.out
    clear HA
    simp only [ratio_Parse.l0] at H
    have HC4 := ak H
    clear H
    go_upto_region 5 with (fail)
    go_cut [17] (fun v17 wc => ∃ (kq : Nat) (x17_3 : Bool), v17 = .bool x17_3 ∧ Aside0 (ratio_Parse.j1 kq a0 x4_1 x5_1 x17_3 = some (r1, r2)) ∧ Aside0 (kq ≤ k1) ∧ Aside0 (Kd.V (Kd.int .u32) 44 wc w.heap.size (fun k_ => (w.heap.size ≤ k_)) u4 x4_1) ∧ Aside0 (Below w.heap.size w wc))
    case first =>
     have H := HC4.out
     clear HC4
     by_cases c5 : x5_1 < (a0.size : Int)
     ·rw [if_pos c5] at H
      have c5b0 := decide_eq_true c5
      clear c5
      (first | rw [c5b0] | (simp only [i64_w, i32_w]; rw [c5b0]) | rw [c5b1] | skip)
      have H' := ak H
      clear H
      obtain ⟨Ao6, co6, eo6⟩ := V_slice HO_4.out
      subst eo6
      go_wp2
      go_meet
      case rel => exact ⟨_, (decide ((x4_1.length : Int) ≤ 64)), gb_, H', ⟨by have := HK1.out; first | omega | exact Nat.le_refl _⟩, ⟨vU_ HO_4.out⟩, ⟨bU_ HB.out⟩⟩
     ·rw [if_neg c5] at H
      have c5b0 := decide_eq_false c5
      clear c5
      (first | rw [c5b0] | (simp only [i64_w, i32_w]; rw [c5b0]) | rw [c5b1] | skip)
      have H' := ak H
      clear H
      go_wp2
      go_meet
      case rel => exact ⟨_, (false), gb_, H', ⟨by have := HK1.out; first | omega | exact Nat.le_refl _⟩, ⟨vU_ HO_4.out⟩, ⟨bU_ HB.out⟩⟩
    case rest =>
     clear HC4
     (try clear c1); (try clear p2); (try clear c3); (try clear c5); (try clear c5b0); (try clear c5b1)
     obtain ⟨kq, x17_3, rfl, HA, HJ3, HO_4, HB⟩ := hcut
     cases kq with
     | zero => exact absurd HA.out (by simp [ratio_Parse.j1])
     | succ kj3 =>
      have H := HA.out
      clear HA
      simp only [ratio_Parse.j1] at H
      by_cases c7 : x17_3 = true
      ·subst c7
       rw [if_pos rfl] at H
       obtain ⟨y146, hy146⟩ : ∃ y_ : List Int, y_ = (([10] : List Int)) := ⟨_, rfl⟩
       replace H : ((ratio_mul.f kj3 x4_1 y146).bind fun t149 => (if 0 ≤ x5_1 then (if x5_1 < (a0.size : Int) then ((ratio_Nat.f kj3 (((bt a0 x5_1) - 48) % 256)).bind fun t152 => ((ratio_add.f kj3 t149 t152).bind fun t155 => (ratio_Parse.l0 kj3 a0 t155 (wrap64 (x5_1 + 1))))) else (none)) else (none))) = some (r1, r2) := by first | (rw [hy146]; with_reducible exact H) | (have H2_ := (Option.bind_some _ _).symm.trans H; rw [hy146]; with_reducible exact H2_) | (have H2_ := (Option.bind_some _ _).symm.trans H; with_reducible exact H2_) | with_reducible exact H | (rw [hy146]; exact H) | exact H
       have Ny146 := ak hy146
       clear hy146
       revert H
       refine bd_ fun t149 A8 H => ?_
       obtain ⟨c9, H⟩ : (0 ≤ x5_1) ∧ _ := it_ H
       have c9b0 := decide_eq_true c9
       clear c9
       obtain ⟨c10, H⟩ : (x5_1 < (a0.size : Int)) ∧ _ := it_ H
       have c10b0 := decide_eq_true c10
       clear c10
       revert H
       refine bd_ fun t152 A12 H => ?_
       revert H
       refine bd_ fun t155 A13 H => ?_
       have H' := ak H
       clear H
       try go_wp2
       refine nx2_ (V_drew HO_4.out) (below_drew1 HB.out) ?_
       clear HO_4 HB
       intro HO_4 HB
       have p11 : 0 ≤ (x5_1 : Int) := od_
       have q11 : x5_1 < (a0.size : Int) := od_
       have hx11 := bt_at a0 x5_1
       replace p11 := eq_true p11
       replace q11 := eq_true q11
       refine start_ (n := 11) (S := fun w' => True) (ds := []) (bv 11 0) (by kernel_rfl) rfl rfl trivial (fun hHeld => ?_); refine with_tabW ratio_Parse.tab7 ratio_Parse.bits7 (fun HT_ HW_ => ?_)
       generalize wc.drew = w14 at HO_4 HB hHeld ⊢
       refine pq_ 0 20 11 1 HT_.out ?_
       refine pq_ 3 23 11 9 HT_.out ?_
       refine pq_ 4 24 11 25 HT_.out ?_
       refine take_ (i := 5) (N := some 25) (v := ?_) (a' := ?_) (bv 11 57) rfl rfl (take_ofW HT_.out HW_.out (by kernel_rfl)) (fun _ _ _ h => h) (Or.inl ⟨by rfl, ?_⟩) hHeld ?_ ?_
       rotate_left
       ·intro w' _
        go_simp
        with_reducible rfl
       rotate_left
       ·simp only [Act.put, s1_, s2_, s3_, i64_w, i32_w]
        rfl
       refine pq_ 6 26 11 121 HT_.out ?_
       refine pq_ 7 27 11 249 HT_.out ?_
       refine oq_ 1 21 11 251 HT_.out fun K hK => ?_
       refine Kd.R_lit_step (Kd.int .u32) _ 44 ?hg (N := 21) ?hd (xs := ([10] : List Int)) (inner := [.int .u32 10]) (ok := fun _ => True) (okp := fun _ => True) ?hr ?hp (fun _ hk => hk) trivial (Below.refl _ _) (Nat.le_refl _) (by simp) ?_; (case hd => rfl); (case hg => rfl); (case hr => first | (go_simp; done) | (go_simp; rfl)); (case hp => exact (Reps.one (show Kd.M (Kd.int .u32) _ _ _ 10 [.int .u32 10] from rfl) (Reps.none _ _)))
       intro v147 w15 ho16 hb hg_ hnew_
       clear hg_ hnew_
       (first | rw [← Ny146.out] at ho16 | (simp only [Int.reduceToNat] at ho16; rw [← Ny146.out] at ho16))
       refine nx3_ (V_elder' (vU_ HO_4.out) (R_base ho16) hb) (R_lower (R_newM (M := fun k_ => (w.heap.size ≤ k_)) ho16 (below_size (bU_ HB.out)) (fun k_ h_ => h_)) (below_size (bU_ HB.out))) (below_step (bU_ HB.out) hb) ?_
       clear HO_4 HB
       intro HO_4 HO148 HB
       clear hb ho16
       obtain ⟨Ao17, co17, eo17⟩ := V_slice HO_4.out
       (first | subst eo17 | (injection eo17 with f1_ f2_ f3_; have f4_ := f1_.symm; have f5_ := f3_.symm; clear f1_ f2_ f3_; subst f4_; subst f5_))
       obtain ⟨Ao18, co18, eo18⟩ := R_slice HO148.out
       (first | subst eo18 | (injection eo18 with f1_ f2_ f3_; have f4_ := f1_.symm; have f5_ := f3_.symm; clear f1_ f2_ f3_; subst f4_; subst f5_))
       refine hK.out _ _ trivial (fun hHeld => ?_)
       clear hK K
       refine norm_ (a' := ?_) ?_ ?_
       rotate_left
       ·show Act.put _ (some 21) _ = _
        simp only [Act.put, s1_, s2_, s3_, i64_w, i32_w]
        rfl
       refine oq_ 2 22 11 255 HT_.out fun K hK => ?_
       refine goes_ Tryd.func59 (by kernel_rfl) rfl #[.slice Ao17 x4_1.length co17, .slice Ao18 y146.length co18] (by rfl) rfl rfl ga_ ?_
       with_reducible refine (ratio_mul.calls kj3 _ _ x4_1 _ _ y146 t149 _ ?side1 ?side2 ?side3 ?side4 A8.out).mono ?_
       (case side1 => exact cU_ ((V_reads' HO_4.out).2.2))
       (case side2 => exact (V_reads' HO_4.out).2.1)
       (case side3 => exact cU_ ((R_reads' HO148.out).2.2))
       (case side4 => exact (R_reads' HO148.out).2.1)
       rintro e w19 ⟨v150, rfl, ho0, hb⟩
       refine ⟨_, rfl, ?_⟩
       refine nx4_ (V_below (vU_ HO_4.out) hb) (R_below (rU_ HO148.out) hb) (V_lower (V_mono (ok' := fun k_ => (w.heap.size ≤ k_) ∧ some k_ ≠ (.slice Ao18 y146.length co18 : Value).ownBlock) ho0 (fun k_ hk_ => ⟨(Nat.le_trans (below_size (bU_ HB.out)) hk_), (fresh' (R_lt (rU_ HO148.out)) k_ hk_)⟩)) (below_size (bU_ HB.out))) (below_step (bU_ HB.out) hb) ?_
       clear HO_4 HO148 HB
       intro HO_4 HO148 HO151 HB
       (try clear hb)
       (try clear hb2)
       (try clear hk)
       (try clear hi)
       (try clear ho0)
       refine hK.out _ _ trivial (fun hHeld => ?_)
       clear hK K
       refine norm_ (a' := ?_) ?_ ?_
       rotate_left
       ·show Act.put _ (some 22) _ = _
        simp only [Act.put, s1_, s2_, s3_, i64_w, i32_w]
        rfl
       refine oq_ 8 28 11 511 HT_.out fun K hK => ?_
       refine goes_ Tryd.func16 (by kernel_rfl) rfl #[.int .u64 (((bt a0 x5_1) - 48) % 256)] (by rfl) rfl rfl (ga_ (by simp only [List.map_toArray, List.map_cons, List.map_nil]; first | rfl | (rw [← u64w_u8]; rfl))) ?_
       with_reducible refine (ratio_Nat.calls kj3 (((bt a0 x5_1) - 48) % 256) t152 _ A12.out).mono ?_
       rintro e w20 ⟨v153, rfl, ho0, hb⟩
       refine ⟨_, rfl, ?_⟩
       refine nx5_ (V_below (vU_ HO_4.out) hb) (R_below (rU_ HO148.out) hb) (V_below (vU_ HO151.out) hb) (V_lower (V_mono (ok' := fun k_ => (w.heap.size ≤ k_) ∧ some k_ ≠ (.slice Ao18 y146.length co18 : Value).ownBlock) ho0 (fun k_ hk_ => ⟨(Nat.le_trans (below_size (bU_ HB.out)) hk_), (fresh' (R_lt (rU_ HO148.out)) k_ hk_)⟩)) (below_size (bU_ HB.out))) (below_step (bU_ HB.out) hb) ?_
       clear HO_4 HO148 HO151 HB
       intro HO_4 HO148 HO151 HO154 HB
       (try clear hb)
       (try clear hb2)
       (try clear hk)
       (try clear hi)
       (try clear ho0)
       obtain ⟨Ao21, co21, eo21⟩ := V_slice HO151.out
       (first | subst eo21 | (injection eo21 with f1_ f2_ f3_; have f4_ := f1_.symm; have f5_ := f3_.symm; clear f1_ f2_ f3_; subst f4_; subst f5_))
       obtain ⟨Ao22, co22, eo22⟩ := V_slice HO154.out
       (first | subst eo22 | (injection eo22 with f1_ f2_ f3_; have f4_ := f1_.symm; have f5_ := f3_.symm; clear f1_ f2_ f3_; subst f4_; subst f5_))
       refine hK.out _ _ trivial (fun hHeld => ?_)
       clear hK K
       refine norm_ (a' := ?_) ?_ ?_
       rotate_left
       ·show Act.put _ (some 28) _ = _
        simp only [Act.put, s1_, s2_, s3_, i64_w, i32_w]
        rfl
       refine oq_ 9 29 11 1023 HT_.out fun K hK => ?_
       refine goes_ Tryd.func58 (by kernel_rfl) rfl #[.slice Ao21 t149.length co21, .slice Ao22 t152.length co22] (by rfl) rfl rfl ga_ ?_
       with_reducible refine (ratio_add.calls kj3 (fun k_ => ((w.heap.size ≤ k_) ∧ some k_ ≠ (.slice Ao18 y146.length co18 : Value).ownBlock)) _ _ t149 (fun k_ => ((w.heap.size ≤ k_) ∧ some k_ ≠ (.slice Ao18 y146.length co18 : Value).ownBlock)) _ _ t152 t155 _ ?side1 ?side2 A13.out).mono ?_
       (case side1 => exact HO151.out)
       (case side2 => exact HO154.out)
       rintro e w23 ⟨v156, rfl, ho0, hb⟩
       refine ⟨_, rfl, ?_⟩
       refine nx6_ (V_below (vU_ HO_4.out) hb) (R_below (rU_ HO148.out) hb) (V_below (vU_ HO151.out) hb) (V_below (vU_ HO154.out) hb) (V_lower (V_mono (ok' := fun k_ => (w.heap.size ≤ k_) ∧ some k_ ≠ (.slice Ao18 y146.length co18 : Value).ownBlock) ho0 (fun k_ hk_ => ⟨Or.elim hk_ (fun hs_ => Or.elim hs_ (fun hs_ => hs_.1) (fun hs_ => hs_.1)) (fun hn_ => (Nat.le_trans (below_size (bU_ HB.out)) hn_)), Or.elim hk_ (fun hs_ => Or.elim hs_ (fun hs_ => hs_.2) (fun hs_ => hs_.2)) (fun hn_ => (fresh' (R_lt (rU_ HO148.out)) k_ hn_))⟩)) (below_size (bU_ HB.out))) (below_step (bU_ HB.out) hb) ?_
       clear HO_4 HO148 HO151 HO154 HB
       intro HO_4 HO148 HO151 HO154 HO157 HB
       (try clear hb)
       (try clear hb2)
       (try clear hk)
       (try clear hi)
       (try clear ho0)
       refine hK.out _ _ trivial (fun hHeld => ?_)
       clear hK K
       refine norm_ (a' := ?_) ?_ ?_
       rotate_left
       ·show Act.put _ (some 29) _ = _
        simp only [Act.put, s1_, s2_, s3_, i64_w, i32_w]
        rfl
       refine pq_ 10 4 11 2047 HT_.out ?_
       refine done_ (done_of HT_.out (by kernel_rfl)) ?_
       try go_wp2
       go_roundg kj3
       case measure => have := HK1.out; have := HJ3.out; omega
       case rel => exact ⟨(t155), (wrap64 (x5_1 + 1)), gb_, H', ⟨by have := HK1.out; have := HJ3.out; omega⟩, ⟨by (with_reducible repeat (first | apply Kd.V_alloc | apply Kd.V_drewN | apply V_drew)); exact V_mono HO157.out (fun _ hk => hk.1)⟩, ⟨bU_ HB.out⟩⟩
      ·replace c7 := Bool.eq_false_iff.mpr c7
       subst c7
       rw [if_neg (show ¬ (false = true) by decide)] at H
       revert H
       refine bd2_ fun t158 t161 A24 H => ?_
       try dsimp only at H
       simp only [Option.some.injEq, Prod.mk.injEq] at H
       obtain ⟨rfl, rfl⟩ := H
       obtain ⟨Ao25, co25, eo25⟩ := V_slice HO_4.out
       subst eo25
       go_wp2_with (first | ((with_reducible refine gate_callee (f := 60) rfl ?_); refine gl_ (some 31) Tryd.func60 #[.slice Ao25 x4_1.length co25] ?_; (with_reducible refine (ratio_bounded.calls (fun k_ => (w.heap.size ≤ k_)) _ _ x4_1 t158 t161 _ ?side1 A24.out).mono ?_); (case side1 => exact HO_4.out); rintro e w26 ⟨v159, rfl, ho0, hb⟩; refine ⟨_, rfl, ?_⟩; refine nx3_ (V_below (vU_ HO_4.out) hb) (V_lower (V_mono (ok' := fun k_ => (w.heap.size ≤ k_)) ho0 (fun k_ hk_ => Or.elim hk_ (fun hs_ => hs_) (fun hn_ => (Nat.le_trans (below_size (bU_ HB.out)) hn_)))) (below_size (bU_ HB.out))) (below_step (bU_ HB.out) hb) ?_; clear HO_4 HB; intro HO_4 HO160 HB; clear hb ho0))
       go_ret2
       exact ⟨_, eW_, vU_ HO160.out, bU_ HB.out⟩
 ·replace c3 := Bool.eq_false_iff.mpr c3
  subst c3
  rw [if_neg (show ¬ (false = true) by decide)] at H
  simp only [Option.some.injEq, Prod.mk.injEq] at H
  obtain ⟨rfl, rfl⟩ := H
  go_enter Tryd.func11, Tryd.ntmps11
  go_wp2_with (first | ((with_reducible refine gate_callee (f := 57) rfl ?_); refine gl_ (some 7) Tryd.func57 #[.string a0] ?_; (with_reducible refine (ratio_natural.calls k a0 false _ A2.out).mono ?_); rintro e w' ⟨rfl, ⟨nd, rfl⟩⟩; refine ⟨_, rfl, ?_⟩))
  go_ret2
  exact ⟨_, eW_, Kd.V_nil _ _ _ _ _, bU_ HB.out⟩

def ratio_ValidNat.f (k : Nat) (l0 : List Int) : Option (Bool) := if (l0.length : Int) ≤ 64 then ((ratio_trim.f k l0).bind fun t162 => (some ((t162.length : Int) == (l0.length : Int)))) else (some false)
theorem ratio_ValidNat.mono : ∀ a0 k, LeO (ratio_ValidNat.f k a0) (ratio_ValidNat.f (k + 1) a0) := by
 intro a0 k
 unfold ratio_ValidNat.f
 with_reducible repeat' first | apply ratio_trim.mono | exact LeO.refl _ | exact LeO.none _ | refine LeO.ite ?_ ?_ | refine LeO.bind ?_ (fun _ => ?_)
set_option maxHeartbeats 8000000 in
set_option maxRecDepth 100000 in
theorem ratio_ValidNat.calls (k : Nat) (A0 : Option Addr) (c0 : Nat) (l0 : List Int) (r : Bool) (w : World) (hr0 : Kd.C (Kd.int .u32) w A0 l0.length l0) (hc0 : l0.length ≤ c0) (h : ratio_ValidNat.f k l0 = some r) :
  Calls Tryd.prog 27 #[.slice A0 l0.length c0] w fun e w' => e = .returned (.bool r) ∧ Below w.heap.size w w' := by
 have HR0 := ak hr0
 have HC0 := ak hc0
 clear hr0 hc0
 have HB := ak (Below.refl w.heap.size w)
 have H := h
 clear h
 unfold ratio_ValidNat.f at H
 by_cases c2 : (l0.length : Int) ≤ 64
 ·rw [if_pos c2] at H
  have c2b0 := decide_eq_true c2
  have c2b1 : decide (l0.length ≤ 64) = true := decide_eq_true (by omega)
  clear c2
  revert H
  refine bd_ fun t162 A3 H => ?_
  obtain rfl := Option.some.inj H
  go_enter Tryd.func27, Tryd.ntmps27
  go_wp2_with (first | (go_at_call 68; (with_reducible refine (ratio_trim.calls k (fun k_ => k_ < w.heap.size) _ _ l0 t162 _ ?side1 A3.out).mono ?_); (case side1 => exact V_mk HC0.out (F_below (C_F (heap_int .u32) HR0.out) (bU_ HB.out))); rintro e w4 ⟨v163, rfl, ho0, hb⟩; refine nx2_ (V_lower (V_mono (ok' := fun k_ => True) ho0 (fun k_ hk_ => trivial)) (below_size (bU_ HB.out))) (below_step (bU_ HB.out) hb) ?_; clear HB; intro HO164 HB; clear hb ho0; obtain ⟨Ao5, co5, eo5⟩ := V_slice HO164.out; subst eo5))
  go_ret
  exact ⟨eW_, bU_ HB.out⟩
 ·rw [if_neg c2] at H
  have c2b0 := decide_eq_false c2
  have c2b1 : decide (l0.length ≤ 64) = false := decide_eq_false (by omega)
  clear c2
  obtain rfl := Option.some.inj H
  go_enter Tryd.func27, Tryd.ntmps27
  go_wp2
  go_ret
  exact ⟨eW_, bU_ HB.out⟩

def ratio_small.l0 : Nat → List Int → Int → List Int → Int → Int → Int → Option (List Int × Int)
 | 0, _, _, _, _, _, _ => none
 | k + 1, x0, x1, x6, x7, x15, x16 => if x16 < x15 then (if 0 ≤ (wrap64 ((wrap64 ((x0.length : Int) - 1)) - x16)) then (if (wrap64 ((wrap64 ((x0.length : Int) - 1)) - x16)) < (x0.length : Int) then (if (IntKind.u64.wrap (x1)) = 0 then (none) else (if (wrap64 ((wrap64 ((x0.length : Int) - 1)) - x16)) < (x6.length : Int) then (ratio_small.l0 k x0 x1 (x6.set ((wrap64 ((wrap64 ((x0.length : Int) - 1)) - x16)) : Int).toNat ((IntKind.u64.wrap (Int.tdiv (Go.bits .or .u64 (IntKind.u64.wrap (x7 * 4294967296)) (IntKind.u64.wrap (rd x0 (wrap64 ((wrap64 ((x0.length : Int) - 1)) - x16))))) (IntKind.u64.wrap (x1)))) % 4294967296)) (Int.tmod (Go.bits .or .u64 (IntKind.u64.wrap (x7 * 4294967296)) (IntKind.u64.wrap (rd x0 (wrap64 ((wrap64 ((x0.length : Int) - 1)) - x16))))) (IntKind.u64.wrap (x1))) x15 (wrap64 (x16 + 1))) else (none))) else (none)) else (none)) else ((ratio_trim.f k x6).bind fun t170 => (some (t170, (x7) % 4294967296)))
def ratio_small.f (k : Nat) (l0 : List Int) (a1 : Int) : Option (List Int × Int) := if 0 ≤ (l0.length : Int) then (if ((l0.length : Int) : Int).toNat ≤ 70368744177664 then (ratio_small.l0 k l0 a1 (List.replicate ((l0.length : Int) : Int).toNat 0) 0 (l0.length : Int) 0) else (none)) else (none)
theorem ratio_small.mono_l : ∀ k, (∀ y0 y1 y2 y3 y4 y5, LeO (ratio_small.l0 k y0 y1 y2 y3 y4 y5) (ratio_small.l0 (k + 1) y0 y1 y2 y3 y4 y5))
 | 0 => fun _ _ _ _ _ _ r h => by simp [ratio_small.l0] at h
 | k + 1 => by
  have ih0 := ratio_small.mono_l k
  ·intro y0 y1 y2 y3 y4 y5
   unfold ratio_small.l0
   with_reducible repeat' first | apply ih0 | apply ratio_trim.mono | exact LeO.refl _ | exact LeO.none _ | refine LeO.ite ?_ ?_ | refine LeO.bind ?_ (fun _ => ?_)
theorem ratio_small.mono : ∀ a0 a1 k, LeO (ratio_small.f k a0 a1) (ratio_small.f (k + 1) a0 a1) := by
 intro a0 a1 k
 have ih0 := ratio_small.mono_l k
 unfold ratio_small.f
 with_reducible repeat' first | apply ih0 | apply ratio_trim.mono | exact LeO.refl _ | exact LeO.none _ | refine LeO.ite ?_ ?_ | refine LeO.bind ?_ (fun _ => ?_)
def ratio_small.T8 : Bool × List (List Nat × List Nat) := (true, [([], []), ([], []), ([], []), ([], []), ([3], [3]), ([2, 4], [2, 4]), ([5], [5]), ([], []), ([], []), ([8], [8]), ([7, 9], [7, 9]), ([0, 1, 0, 1, 2, 3, 4, 5, 6], [0, 1]), ([11, 6, 0, 1, 2, 3, 4, 5, 6], [6, 11]), ([10, 12, 0, 1, 2, 3, 4, 5, 6, 7, 8, 9, 10, 11, 12], [10])])
def ratio_small.B8 : List Nat := [0, 0, 0, 0, 8, 28, 60, 0, 0, 256, 896, 127, 2175, 8191]
theorem ratio_small.tab8 : rtab .any (opsOf Tryd.f71 8) = ratio_small.T8 := by kernel_rfl
theorem ratio_small.bits8 : waitsOk ratio_small.T8.2 ratio_small.B8 = true := by kernel_rfl
set_option maxHeartbeats 8000000 in
set_option maxRecDepth 100000 in
theorem ratio_small.calls (k : Nat) (A0 : Option Addr) (c0 : Nat) (l0 : List Int) (a1 : Int) (r1 : List Int) (r2 : Int) (w : World) (hr0 : Kd.C (Kd.int .u32) w A0 l0.length l0) (hc0 : l0.length ≤ c0) (h : ratio_small.f k l0 a1 = some (r1, r2)) :
  Calls Tryd.prog 71 #[.slice A0 l0.length c0, .int .u32 a1] w fun e w' => ∃ v0_ : Value, e = .returned (.tuple #[v0_, .int .u32 r2]) ∧ Kd.V (Kd.int .u32) 44 w' w.heap.size (fun k_ => (w.heap.size ≤ k_)) v0_ r1 ∧ Below w.heap.size w w' := by
 have HR0 := ak hr0
 have HC0 := ak hc0
 clear hr0 hc0
 have HB := ak (Below.refl w.heap.size w)
 have H := h
 clear h
 unfold ratio_small.f at H
 obtain ⟨c3, H⟩ : (0 ≤ (l0.length : Int)) ∧ _ := it_ H
 have c3b0 := eq_true c3
 have c3b1 := decide_eq_true c3
 clear c3
 obtain ⟨c4, H⟩ : (((l0.length : Int) : Int).toNat ≤ 70368744177664) ∧ _ := it_ H
 have c4b0 := eq_true c4
 have c4b1 := decide_eq_true c4
 clear c4
 obtain ⟨y165, hy165⟩ : ∃ y_ : List Int, y_ = (List.replicate ((l0.length : Int) : Int).toNat 0) := ⟨_, rfl⟩
 first | rw [Option.bind_some, ← hy165] at H | rw [← hy165] at H
 have Ny165 := ak hy165
 clear hy165
 have H' := ak H
 clear H
 go_enter Tryd.func71, Tryd.ntmps71
 go_wp2_with (first | ((with_reducible refine gate_dst (N := 13) rfl ?_); refine R_make (Kd.int .u32) _ 44 rfl (N := 13) rfl 23 _ _ rfl (l0.length : Int) ?hx ?hy Tryd.underlying23 (.int .u32 0) 4 info44 rfl (by decide) (by omega) 0 (ok := fun _ => True) (okp := fun _ => True) rfl (fun _ hk => hk) trivial od_ (Nat.le_trans (Nat.mul_le_mul_right _ (od_ : (l0.length : Int).toNat ≤ 70368744177664)) (by omega)) (Below.refl _ _) (Nat.le_refl _) ?_; (case hx => first | rfl); (case hy => first | rfl); intro v166 w5 ho6 hb hg_ hnew_; clear hg_ hnew_; (first | rw [← Ny165.out] at ho6 | (simp only [Int.reduceToNat] at ho6; rw [← Ny165.out] at ho6)); refine nx2_ (R_lower (R_newM (M := fun k_ => (w.heap.size ≤ k_)) ho6 (below_size (bU_ HB.out)) (fun k_ h_ => h_)) (below_size (bU_ HB.out))) (below_step (bU_ HB.out) hb) ?_; clear HB; intro HO167 HB; clear hb ho6))
 go_loopg [7, 16] k (fun kq v7 v16 w' => ∃ (x6_1 : List Int) (x7_1 : Int) (x16_1 : Int), v7 = .int .u64 x7_1 ∧ v16 = .int .i64 x16_1 ∧ Aside0 (ratio_small.l0 kq l0 a1 x6_1 x7_1 (l0.length : Int) x16_1 = some (r1, r2)) ∧ Aside0 (kq ≤ k) ∧ Aside0 (Kd.R (Kd.int .u32) 44 w' w.heap.size (fun k_ => (w.heap.size ≤ k_)) v166 x6_1) ∧ Aside0 (Below w.heap.size w w'))
 case atStart => exact ⟨(y165), (0), (0), gb_, gb_, H', ⟨Nat.le_refl _⟩, ⟨R_mono (rU_ HO167.out) (fun _ hk => hk.1)⟩, ⟨bU_ HB.out⟩⟩
 case round =>
  clear H'
  (try clear p2); (try clear c3); (try clear c3b0); (try clear c3b1); (try clear c4); (try clear c4b0); (try clear c4b1)
  obtain ⟨x6_1, x7_1, x16_1, rfl, rfl, HA, HK1, HO_6, HB⟩ := hrel
  cases gk with
  | zero => exact absurd HA.out (by simp [ratio_small.l0])
  | succ k1 =>
   have H := HA.out
   clear HA
   simp only [ratio_small.l0] at H
   by_cases c7 : x16_1 < (l0.length : Int)
   ·rw [if_pos c7] at H
    have c7b0 := decide_eq_true c7
    clear c7
    obtain ⟨ji8, hji8⟩ : ∃ j_ : Int, (wrap64 ((wrap64 ((l0.length : Int) - 1)) - x16_1)) = j_ := ⟨_, rfl⟩
    first | rw [hji8] at H | simp only [hji8] at H
    have hji8w : (IntKind.i64.wrap ((wrap64 ((l0.length : Int) - 1)) - x16_1)) = ji8 := (i64_w _).trans hji8
    obtain ⟨c9, H⟩ : (0 ≤ (ji8)) ∧ _ := it_ H
    have c9b0 := decide_eq_true c9
    clear c9
    obtain ⟨c10, H⟩ : ((ji8) < (l0.length : Int)) ∧ _ := it_ H
    have c10b0 := decide_eq_true c10
    clear c10
    by_cases c11 : (IntKind.u64.wrap (a1)) = 0
    ·rw [if_pos c11] at H
     exact absurd H (by simp)
    ·rw [if_neg c11] at H
     have c11b0 := beq_eq_false_iff_ne.mpr c11
     have c11b1 := bne_iff_ne.mpr c11
     obtain ⟨c12, H⟩ : ((ji8) < (x6_1.length : Int)) ∧ _ := it_ H
     have c12b0 := decide_eq_true c12
     clear c12
     obtain ⟨y169, hy169⟩ : ∃ y_ : List Int, y_ = (x6_1.set ((ji8) : Int).toNat ((IntKind.u64.wrap (Int.tdiv (Go.bits .or .u64 (IntKind.u64.wrap (x7_1 * 4294967296)) (IntKind.u64.wrap (rd l0 (ji8)))) (IntKind.u64.wrap (a1)))) % 4294967296)) := ⟨_, rfl⟩
     first | rw [Option.bind_some, ← hy169] at H | rw [← hy169] at H
     have Ny169 := ak hy169
     clear hy169
     have H' := ak H
     clear H
     have p168 : 0 ≤ ((ji8) : Int) := od_
     have q168 : (ji8) < (l0.length : Int) := od_
     obtain ⟨ad168, e168, hx168_0⟩ := Kd.at_int HR0.out (ji8) p168 q168
     cases e168
     replace hx168_0 := (HB.out.cell (World.block_lt_of_cell? w _ hx168_0)).trans hx168_0
     replace p168 := eq_true p168
     replace q168 := eq_true q168
     try go_wp2
     refine nx2_ (R_drew HO_6.out) (below_drew1 HB.out) ?_
     clear HO_6 HB
     intro HO_6 HB
     have p13 : 0 ≤ ((ji8) : Int) := od_
     have q13 : ((ji8) : Int) < ((x6_1.length : Int) : Int) := od_
     obtain ⟨go13, co13, eo13, gb13, gl13, cl13, HG13⟩ := Kd.R_form HO_6.out (by omega)
     (first | cases eo13 | (injection eo13 with ea_ en_ ec_; (first | subst ea_ | (injection ea_ with ea_; subst ea_)); subst ec_; clear en_))
     have GB13 := ak gb13
     have GG13 := ak HG13
     clear gb13 gl13 HG13
     obtain ⟨hx13_0, hf13_0⟩ := Kd.R_celln 0 HO_6.out ((ji8) : Int) p13 q13
     replace p13 := eq_true p13
     replace q13 := eq_true q13
     have HP15 := Kd.R_putn HO_6.out ((ji8) : Int) ((IntKind.u64.wrap (Int.tdiv (Go.bits .or .u64 (IntKind.u64.wrap (x7_1 * 4294967296)) (IntKind.u64.wrap (rd l0 (ji8)))) (IntKind.u64.wrap (a1)))) % 4294967296)
     rw [← Ny169.out] at HP15
     have HQ15 := ak HP15
     clear HP15
     refine start_ (n := 14) (S := fun w' => True) (ds := [12]) (bv 14 0) (by kernel_rfl) rfl rfl trivial (fun hHeld => ?_); refine with_tabW ratio_small.tab8 ratio_small.bits8 (fun HT_ HW_ => ?_)
     generalize wr.drew = w14 at HO_6 HB GG13 HQ15 hf13_0 hx13_0 hHeld ⊢
     refine pq_ 0 32 14 1 HT_.out ?_
     refine pq_ 1 33 14 3 HT_.out ?_
     refine pq_ 2 34 14 7 HT_.out ?_
     refine pq_ 3 35 14 15 HT_.out ?_
     refine pq_ 4 36 14 31 HT_.out ?_
     refine pq_ 5 37 14 63 HT_.out ?_
     refine pq_ 6 38 14 127 HT_.out ?_
     refine pq_ 7 39 14 255 HT_.out ?_
     refine pq_ 8 40 14 511 HT_.out ?_
     refine pq_ 9 41 14 1023 HT_.out ?_
     refine pq_ 10 42 14 2047 HT_.out ?_
     refine pq_ 11 43 14 4095 HT_.out ?_
     refine last_ (i := 12) (N := none) #[true, true, true, true, true, true, true, true, true, true, true, true, true, false] rfl rfl (one_of HT_.out (by kernel_rfl)) (by decide) (fun K hK => ?_)
     refine skip_ (w1 := ?_) (by rfl) rfl ?_ ?_
     rotate_left
     ·go_simp
      rfl
     refine hK.out _ _ ?_
     clear hK K
     refine pq_ 13 7 14 16383 HT_.out ?_
     refine done_ (done_of HT_.out (by kernel_rfl)) ?_
     try go_wp2
     go_roundg k1
     case measure => have := HK1.out; omega
     case rel => exact ⟨(y169), (Int.tmod (Go.bits .or .u64 (IntKind.u64.wrap (x7_1 * 4294967296)) (IntKind.u64.wrap (rd l0 (ji8)))) (IntKind.u64.wrap (a1))), (wrap64 (x16_1 + 1)), (by first | rfl | (simp; done) | (simp only [← hji8] <;> (first | rfl | simp)) | (simp [*]; done)), gb_, H', ⟨by have := HK1.out; omega⟩, ⟨rU_ HQ15.out⟩, ⟨sU_⟩⟩
   ·rw [if_neg c7] at H
    have c7b0 := decide_eq_false c7
    clear c7
    revert H
    refine bd_ fun t170 A16 H => ?_
    simp only [Option.some.injEq, Prod.mk.injEq] at H
    obtain ⟨rfl, rfl⟩ := H
    obtain ⟨Ao17, co17, eo17⟩ := R_slice HO_6.out
    subst eo17
    go_wp2_with (first | ((with_reducible refine gate_callee (f := 68) rfl ?_); refine gl_ (some 46) Tryd.func68 #[.slice Ao17 x6_1.length co17] ?_; (with_reducible refine (ratio_trim.calls k1 (fun k_ => some k_ = (.slice Ao17 x6_1.length co17 : Value).ownBlock) _ _ x6_1 t170 _ ?side1 A16.out).mono ?_); (case side1 => exact R_V (R_tight rfl (HO_6.out))); rintro e w18 ⟨v171, rfl, ho0, hb⟩; refine ⟨_, rfl, ?_⟩; refine nx3_ (R_below (rU_ HO_6.out) hb) (V_lower (V_mono (ok' := fun k_ => (w.heap.size ≤ k_)) ho0 (fun k_ hk_ => Or.elim hk_ (fun hs_ => ((HO_6.out).1 k_ hs_.symm)) (fun hn_ => (Nat.le_trans (below_size (bU_ HB.out)) hn_)))) (below_size (bU_ HB.out))) (below_step (bU_ HB.out) hb) ?_; clear HO_6 HB; intro HO_6 HO172 HB; clear hb ho0))
    go_ret2
    exact ⟨_, eW_, vU_ HO172.out, bU_ HB.out⟩

def ratio_compare.l0 : Nat → List Int → List Int → Int → Int → Option (Int)
 | 0, _, _, _, _ => none
 | k + 1, x0, x1, x20, x21 => if x21 < x20 then (if 0 ≤ (wrap64 ((wrap64 ((x0.length : Int) - 1)) - x21)) then (if (wrap64 ((wrap64 ((x0.length : Int) - 1)) - x21)) < (x0.length : Int) then (if (wrap64 ((wrap64 ((x0.length : Int) - 1)) - x21)) < (x1.length : Int) then (if (rd x0 (wrap64 ((wrap64 ((x0.length : Int) - 1)) - x21))) < (rd x1 (wrap64 ((wrap64 ((x0.length : Int) - 1)) - x21))) then (some (-1)) else (if (rd x0 (wrap64 ((wrap64 ((x0.length : Int) - 1)) - x21))) > (rd x1 (wrap64 ((wrap64 ((x0.length : Int) - 1)) - x21))) then (some 1) else (ratio_compare.l0 k x0 x1 x20 (wrap64 (x21 + 1))))) else (none)) else (none)) else (none)) else (some 0)
def ratio_compare.f (k : Nat) (l0 : List Int) (l1 : List Int) : Option (Int) := if (l0.length : Int) < (l1.length : Int) then (some (-1)) else (if (l0.length : Int) > (l1.length : Int) then (some 1) else (ratio_compare.l0 k l0 l1 (l0.length : Int) 0))
theorem ratio_compare.mono_l : ∀ k, (∀ y0 y1 y2 y3, LeO (ratio_compare.l0 k y0 y1 y2 y3) (ratio_compare.l0 (k + 1) y0 y1 y2 y3))
 | 0 => fun _ _ _ _ r h => by simp [ratio_compare.l0] at h
 | k + 1 => by
  have ih0 := ratio_compare.mono_l k
  ·intro y0 y1 y2 y3
   unfold ratio_compare.l0
   with_reducible repeat' first | apply ih0 | exact LeO.refl _ | exact LeO.none _ | refine LeO.ite ?_ ?_ | refine LeO.bind ?_ (fun _ => ?_)
theorem ratio_compare.mono : ∀ a0 a1 k, LeO (ratio_compare.f k a0 a1) (ratio_compare.f (k + 1) a0 a1) := by
 intro a0 a1 k
 have ih0 := ratio_compare.mono_l k
 unfold ratio_compare.f
 with_reducible repeat' first | apply ih0 | exact LeO.refl _ | exact LeO.none _ | refine LeO.ite ?_ ?_ | refine LeO.bind ?_ (fun _ => ?_)
set_option maxHeartbeats 8000000 in
set_option maxRecDepth 100000 in
theorem ratio_compare.calls (k : Nat) (A0 : Option Addr) (c0 : Nat) (l0 : List Int) (A1 : Option Addr) (c1 : Nat) (l1 : List Int) (r : Int) (w : World) (hr0 : Kd.C (Kd.int .u32) w A0 l0.length l0) (hc0 : l0.length ≤ c0) (hr1 : Kd.C (Kd.int .u32) w A1 l1.length l1) (hc1 : l1.length ≤ c1) (h : ratio_compare.f k l0 l1 = some r) :
  Calls Tryd.prog 74 #[.slice A0 l0.length c0, .slice A1 l1.length c1] w fun e w' => e = .returned (.int .i64 r) ∧ Drawn0 w w' := by
 have HR0 := ak hr0
 have HC0 := ak hc0
 clear hr0 hc0
 have HR1 := ak hr1
 have HC1 := ak hc1
 clear hr1 hc1
 have H := h
 clear h
 unfold ratio_compare.f at H
 by_cases c3 : (l0.length : Int) < (l1.length : Int)
 ·rw [if_pos c3] at H
  have c3b0 := decide_eq_true c3
  have c3b1 : decide (l0.length < l1.length) = true := decide_eq_true (Int.ofNat_lt.mp c3)
  clear c3
  obtain rfl := Option.some.inj H
  go_enter Tryd.func74, Tryd.ntmps74
  go_wp2
  repeat (go_quiet (fail); try go_wp2)
  go_ret
  exact ⟨by first | rfl | (simp; done) | (simp [*]; done), by repeat (first | exact Drawn0.refl _ | apply Drawn0.step)⟩
 ·rw [if_neg c3] at H
  have c3b0 := decide_eq_false c3
  have c3b1 : decide (l0.length < l1.length) = false := decide_eq_false (fun h => c3 (Int.ofNat_lt.mpr h))
  clear c3
  by_cases c4 : (l0.length : Int) > (l1.length : Int)
  ·rw [if_pos c4] at H
   have c4b0 : decide ((l1.length : Int) < (l0.length : Int)) = true := decide_eq_true c4
   have c4b1 : decide (l1.length < l0.length) = true := decide_eq_true (Int.ofNat_lt.mp c4)
   clear c4
   obtain rfl := Option.some.inj H
   go_enter Tryd.func74, Tryd.ntmps74
   go_wp2
   repeat (go_quiet (fail); try go_wp2)
   go_ret
   exact ⟨by first | rfl | (simp; done) | (simp [*]; done), by repeat (first | exact Drawn0.refl _ | apply Drawn0.step)⟩
  ·rw [if_neg c4] at H
   have c4b0 : decide ((l1.length : Int) < (l0.length : Int)) = false := decide_eq_false c4
   have c4b1 : decide (l1.length < l0.length) = false := decide_eq_false (fun h => c4 (Int.ofNat_lt.mpr h))
   clear c4
   have H' := ak H
   clear H
   go_enter Tryd.func74, Tryd.ntmps74
   go_wp2
   repeat (go_quiet (fail); try go_wp2)
   go_loopg [21] k (fun kq v21 w' => ∃ (x21_1 : Int), v21 = .int .i64 x21_1 ∧ Aside0 (ratio_compare.l0 kq l0 l1 (l0.length : Int) x21_1 = some r) ∧ Aside0 (kq ≤ k) ∧ Drawn0 w w')
   case atStart => exact ⟨(0), gb_, H', ⟨Nat.le_refl _⟩, by repeat (first | exact Drawn0.refl _ | apply Drawn0.step)⟩
   case round =>
    clear H'
    (try clear c1); (try clear p2); (try clear c3); (try clear c3b0); (try clear c3b1); (try clear c4); (try clear c4b0); (try clear c4b1)
    obtain ⟨x21_1, rfl, HA, HK1, ⟨m1, rfl⟩⟩ := hrel
    cases gk with
    | zero => exact absurd HA.out (by simp [ratio_compare.l0])
    | succ k1 =>
     have H := HA.out
     clear HA
     simp only [ratio_compare.l0] at H
     by_cases c5 : x21_1 < (l0.length : Int)
     ·rw [if_pos c5] at H
      have c5b0 := decide_eq_true c5
      clear c5
      obtain ⟨ji6, hji6⟩ : ∃ j_ : Int, (wrap64 ((wrap64 ((l0.length : Int) - 1)) - x21_1)) = j_ := ⟨_, rfl⟩
      first | rw [hji6] at H | simp only [hji6] at H
      have hji6w : (IntKind.i64.wrap ((wrap64 ((l0.length : Int) - 1)) - x21_1)) = ji6 := (i64_w _).trans hji6
      obtain ⟨c7, H⟩ : (0 ≤ (ji6)) ∧ _ := it_ H
      have c7b0 := decide_eq_true c7
      clear c7
      obtain ⟨c8, H⟩ : ((ji6) < (l0.length : Int)) ∧ _ := it_ H
      have c8b0 := decide_eq_true c8
      clear c8
      obtain ⟨c9, H⟩ : ((ji6) < (l1.length : Int)) ∧ _ := it_ H
      have c9b0 := decide_eq_true c9
      clear c9
      by_cases c10 : (rd l0 (ji6)) < (rd l1 (ji6))
      ·rw [if_pos c10] at H
       have c10b0 := decide_eq_true c10
       clear c10
       obtain rfl := Option.some.inj H
       have p173 : 0 ≤ ((ji6) : Int) := od_
       have q173 : (ji6) < (l0.length : Int) := od_
       obtain ⟨ad173, e173, hx173_0⟩ := Kd.at_int HR0.out (ji6) p173 q173
       cases e173
       replace p173 := eq_true p173
       replace q173 := eq_true q173
       have p174 : 0 ≤ ((ji6) : Int) := od_
       have q174 : (ji6) < (l1.length : Int) := od_
       obtain ⟨ad174, e174, hx174_0⟩ := Kd.at_int HR1.out (ji6) p174 q174
       cases e174
       replace p174 := eq_true p174
       replace q174 := eq_true q174
       go_wp2
       repeat (go_quiet (fail); try go_wp2)
       go_ret
       exact ⟨by first | rfl | (simp; done) | (simp only [← hji6] <;> (first | rfl | simp)) | (simp [*]; done), by repeat (first | exact Drawn0.refl _ | apply Drawn0.step)⟩
      ·rw [if_neg c10] at H
       have c10b0 := decide_eq_false c10
       clear c10
       by_cases c11 : (rd l0 (ji6)) > (rd l1 (ji6))
       ·rw [if_pos c11] at H
        have c11b0 : decide ((rd l1 (ji6)) < (rd l0 (ji6))) = true := decide_eq_true c11
        clear c11
        obtain rfl := Option.some.inj H
        have p173 : 0 ≤ ((ji6) : Int) := od_
        have q173 : (ji6) < (l0.length : Int) := od_
        obtain ⟨ad173, e173, hx173_0⟩ := Kd.at_int HR0.out (ji6) p173 q173
        cases e173
        replace p173 := eq_true p173
        replace q173 := eq_true q173
        have p174 : 0 ≤ ((ji6) : Int) := od_
        have q174 : (ji6) < (l1.length : Int) := od_
        obtain ⟨ad174, e174, hx174_0⟩ := Kd.at_int HR1.out (ji6) p174 q174
        cases e174
        replace p174 := eq_true p174
        replace q174 := eq_true q174
        have p175 : 0 ≤ ((ji6) : Int) := od_
        have q175 : (ji6) < (l0.length : Int) := od_
        obtain ⟨ad175, e175, hx175_0⟩ := Kd.at_int HR0.out (ji6) p175 q175
        obtain rfl : ad173 = ad175 := (by injection e175)
        replace p175 := eq_true p175
        replace q175 := eq_true q175
        have p176 : 0 ≤ ((ji6) : Int) := od_
        have q176 : (ji6) < (l1.length : Int) := od_
        obtain ⟨ad176, e176, hx176_0⟩ := Kd.at_int HR1.out (ji6) p176 q176
        obtain rfl : ad174 = ad176 := (by injection e176)
        replace p176 := eq_true p176
        replace q176 := eq_true q176
        go_wp2
        repeat (go_quiet (fail); try go_wp2)
        go_ret
        exact ⟨by first | rfl | (simp; done) | (simp only [← hji6] <;> (first | rfl | simp)) | (simp [*]; done), by repeat (first | exact Drawn0.refl _ | apply Drawn0.step)⟩
       ·rw [if_neg c11] at H
        have c11b0 : decide ((rd l1 (ji6)) < (rd l0 (ji6))) = false := decide_eq_false c11
        clear c11
        have H' := ak H
        clear H
        have p173 : 0 ≤ ((ji6) : Int) := od_
        have q173 : (ji6) < (l0.length : Int) := od_
        obtain ⟨ad173, e173, hx173_0⟩ := Kd.at_int HR0.out (ji6) p173 q173
        cases e173
        replace p173 := eq_true p173
        replace q173 := eq_true q173
        have p174 : 0 ≤ ((ji6) : Int) := od_
        have q174 : (ji6) < (l1.length : Int) := od_
        obtain ⟨ad174, e174, hx174_0⟩ := Kd.at_int HR1.out (ji6) p174 q174
        cases e174
        replace p174 := eq_true p174
        replace q174 := eq_true q174
        have p175 : 0 ≤ ((ji6) : Int) := od_
        have q175 : (ji6) < (l0.length : Int) := od_
        obtain ⟨ad175, e175, hx175_0⟩ := Kd.at_int HR0.out (ji6) p175 q175
        obtain rfl : ad173 = ad175 := (by injection e175)
        replace p175 := eq_true p175
        replace q175 := eq_true q175
        have p176 : 0 ≤ ((ji6) : Int) := od_
        have q176 : (ji6) < (l1.length : Int) := od_
        obtain ⟨ad176, e176, hx176_0⟩ := Kd.at_int HR1.out (ji6) p176 q176
        obtain rfl : ad174 = ad176 := (by injection e176)
        replace p176 := eq_true p176
        replace q176 := eq_true q176
        go_wp2
        repeat (go_quiet (fail); try go_wp2)
        go_roundg k1
        case measure => have := HK1.out; omega
        case rel => exact ⟨(wrap64 (x21_1 + 1)), gb_, H', ⟨by have := HK1.out; omega⟩, by repeat (first | exact Drawn0.refl _ | apply Drawn0.step)⟩
     ·rw [if_neg c5] at H
      have c5b0 := decide_eq_false c5
      clear c5
      obtain rfl := Option.some.inj H
      go_wp2
      repeat (go_quiet (fail); try go_wp2)
      go_ret
      exact ⟨by first | rfl | (simp; done) | (simp [*]; done), by repeat (first | exact Drawn0.refl _ | apply Drawn0.step)⟩

def api_Nat_uint32.f (l0 : List Int) : Option (List Int) := (some (([] : List Int) : List Int)).bind fun y177 => (if y177.length + l0.length < 35184372088832 then (some (y177 ++ l0)) else (none))
set_option maxHeartbeats 8000000 in
set_option maxRecDepth 100000 in
theorem api_Nat_uint32.calls (A0 : Option Addr) (c0 : Nat) (l0 : List Int) (r : List Int) (w : World) (hr0 : Kd.C (Kd.int .u32) w A0 l0.length l0) (hc0 : l0.length ≤ c0) (h : api_Nat_uint32.f l0 = some r) :
  Calls Tryd.prog 88 #[.slice A0 l0.length c0] w fun e w' => ∃ v0_ : Value, e = .returned (v0_) ∧ Kd.R (Kd.int .u32) 44 w' w.heap.size (fun _ => True) v0_ r ∧ Below w.heap.size w w' := by
  cases A0 with
  | none =>
    have hn : l0 = [] := by
      cases l0 with
      | nil => rfl
      | cons x l => obtain ⟨ad, e, _⟩ := hr0.2.2 (by simp); cases e
    subst hn
    simp [api_Nat_uint32.f] at h
    subst h
    have hq := eql_nil_ (P := Tryd.prog) 24 44 Tryd.underlying24 none 0 c0
    go_enter Tryd.func88, Tryd.ntmps88
    go_wp2
    go_ret
    exact ⟨_, rfl, Kd.R_nil _ _ _ _ _, Below.refl _ _⟩
  | some a0 =>
   have hq := eql_nil_ (P := Tryd.prog) 24 44 Tryd.underlying24 (some a0) l0.length c0
   have HR0 := ak hr0
   have HC0 := ak hc0
   clear hr0 hc0
   have HB := ak (Below.refl w.heap.size w)
   have H := h
   clear h
   unfold api_Nat_uint32.f at H
   obtain ⟨y177, hy177⟩ : ∃ y_ : List Int, y_ = (([] : List Int)) := ⟨_, rfl⟩
   replace H : (if y177.length + l0.length < 35184372088832 then (some (y177 ++ l0)) else (none)) = some r := by first | (rw [hy177]; with_reducible exact H) | (have H2_ := (Option.bind_some _ _).symm.trans H; rw [hy177]; with_reducible exact H2_) | (have H2_ := (Option.bind_some _ _).symm.trans H; with_reducible exact H2_) | with_reducible exact H | (rw [hy177]; exact H) | exact H
   have Ny177 := ak hy177
   clear hy177
   obtain ⟨c2, H⟩ : (y177.length + l0.length < 35184372088832) ∧ _ := it_ H
   have LMc2 := ak c2
   clear c2
   obtain ⟨y180, hy180⟩ : ∃ y_ : List Int, y_ = (y177 ++ l0) := ⟨_, rfl⟩
   first | rw [Option.bind_some, ← hy180] at H | rw [← hy180] at H
   have Ny180 := ak hy180
   clear hy180
   obtain rfl := Option.some.inj H
   go_enter Tryd.func88, Tryd.ntmps88
   go_wp2_with (first | ((with_reducible refine gate_dst (N := 5) rfl ?_); refine R_lit (Kd.int .u32) _ 44 ?hg (N := 5) ?hd (xs := ([] : List Int)) (inner := []) (ok := fun _ => True) (okp := fun _ => True) ?hr ?hp (fun _ hk => hk) trivial (Below.refl _ _) (Nat.le_refl _) (by simp) ?_; (case hd => rfl); (case hg => rfl); (case hr => first | (go_simp; done) | (go_simp; rfl)); (case hp => exact (Reps.none _ _)); intro v178 w3 ho4 hb hg_ hnew_; clear hg_ hnew_; (first | rw [← Ny177.out] at ho4 | (simp only [Int.reduceToNat] at ho4; rw [← Ny177.out] at ho4)); refine nx2_ (R_lower ho4 (below_size (bU_ HB.out))) (below_step (bU_ HB.out) hb) ?_; clear HB; intro HO179 HB; clear hb ho4) | ((with_reducible refine gate_builtin (b := .append) (xs := #[.tmp 5, .tmp 6]) rfl ?_); at_builtin; refine Kd.R_append_rows (Kd.int .u32) (w0 := w) w.heap.size rfl (.tmp 5) (.tmp 6) 24 44 (.int .u32 0) 4 rfl Tryd.underlying24 info44 rfl (by decide) (by omega) v178 y177 l0 _ _ _ (fun _ => True) (fun _ => False) rfl rfl ?aO ?aR (fun _ _ h => h) (fun _ h => h.elim) ?aF ?aB ?aS ?aL ?_; (case aR => exact cU_ (C_below HR0.out HB.out)); (case aB => exact (bU_ HB.out)); (case aF => exact (fun _ _ => trivial)); (case aO => exact (rU_ HO179.out)); (case aS => exact (below_size (bU_ HB.out))); (case aL => have := LMc2.out; omega); intro v181 w5 ho hb hg hat; rw [← Ny180.out] at ho; refine nx2_ (hb) (ho) ?_; clear HB HO179; intro HB HO182; clear ho hb hg hat))
   go_ret
   exact ⟨_, eW_, rU_ HO182.out, bU_ HB.out⟩

def bits_Len32.f (a0 : Int) : Option (Int) := if a0 ≥ 65536 then (if (a0 / 65536) ≥ 256 then (if 0 ≤ (((a0 / 65536) / 256) % 256) then (if (((a0 / 65536) / 256) % 256) < 256 then (some (wrap64 ((16 + 8) + (wrap64 (bt (⟨#[0, 1, 2, 2, 3, 3, 3, 3, 4, 4, 4, 4, 4, 4, 4, 4, 5, 5, 5, 5, 5, 5, 5, 5, 5, 5, 5, 5, 5, 5, 5, 5, 6, 6, 6, 6, 6, 6, 6, 6, 6, 6, 6, 6, 6, 6, 6, 6, 6, 6, 6, 6, 6, 6, 6, 6, 6, 6, 6, 6, 6, 6, 6, 6, 7, 7, 7, 7, 7, 7, 7, 7, 7, 7, 7, 7, 7, 7, 7, 7, 7, 7, 7, 7, 7, 7, 7, 7, 7, 7, 7, 7, 7, 7, 7, 7, 7, 7, 7, 7, 7, 7, 7, 7, 7, 7, 7, 7, 7, 7, 7, 7, 7, 7, 7, 7, 7, 7, 7, 7, 7, 7, 7, 7, 7, 7, 7, 7, 8, 8, 8, 8, 8, 8, 8, 8, 8, 8, 8, 8, 8, 8, 8, 8, 8, 8, 8, 8, 8, 8, 8, 8, 8, 8, 8, 8, 8, 8, 8, 8, 8, 8, 8, 8, 8, 8, 8, 8, 8, 8, 8, 8, 8, 8, 8, 8, 8, 8, 8, 8, 8, 8, 8, 8, 8, 8, 8, 8, 8, 8, 8, 8, 8, 8, 8, 8, 8, 8, 8, 8, 8, 8, 8, 8, 8, 8, 8, 8, 8, 8, 8, 8, 8, 8, 8, 8, 8, 8, 8, 8, 8, 8, 8, 8, 8, 8, 8, 8, 8, 8, 8, 8, 8, 8, 8, 8, 8, 8, 8, 8, 8, 8, 8, 8, 8, 8, 8, 8, 8, 8, 8, 8, 8, 8, 8, 8]⟩ : ByteArray) (((a0 / 65536) / 256) % 256)))))) else (none)) else (none)) else (if 0 ≤ ((a0 / 65536) % 256) then (if ((a0 / 65536) % 256) < 256 then (some (wrap64 (16 + (wrap64 (bt (⟨#[0, 1, 2, 2, 3, 3, 3, 3, 4, 4, 4, 4, 4, 4, 4, 4, 5, 5, 5, 5, 5, 5, 5, 5, 5, 5, 5, 5, 5, 5, 5, 5, 6, 6, 6, 6, 6, 6, 6, 6, 6, 6, 6, 6, 6, 6, 6, 6, 6, 6, 6, 6, 6, 6, 6, 6, 6, 6, 6, 6, 6, 6, 6, 6, 7, 7, 7, 7, 7, 7, 7, 7, 7, 7, 7, 7, 7, 7, 7, 7, 7, 7, 7, 7, 7, 7, 7, 7, 7, 7, 7, 7, 7, 7, 7, 7, 7, 7, 7, 7, 7, 7, 7, 7, 7, 7, 7, 7, 7, 7, 7, 7, 7, 7, 7, 7, 7, 7, 7, 7, 7, 7, 7, 7, 7, 7, 7, 7, 8, 8, 8, 8, 8, 8, 8, 8, 8, 8, 8, 8, 8, 8, 8, 8, 8, 8, 8, 8, 8, 8, 8, 8, 8, 8, 8, 8, 8, 8, 8, 8, 8, 8, 8, 8, 8, 8, 8, 8, 8, 8, 8, 8, 8, 8, 8, 8, 8, 8, 8, 8, 8, 8, 8, 8, 8, 8, 8, 8, 8, 8, 8, 8, 8, 8, 8, 8, 8, 8, 8, 8, 8, 8, 8, 8, 8, 8, 8, 8, 8, 8, 8, 8, 8, 8, 8, 8, 8, 8, 8, 8, 8, 8, 8, 8, 8, 8, 8, 8, 8, 8, 8, 8, 8, 8, 8, 8, 8, 8, 8, 8, 8, 8, 8, 8, 8, 8, 8, 8, 8, 8, 8, 8, 8, 8, 8, 8]⟩ : ByteArray) ((a0 / 65536) % 256)))))) else (none)) else (none))) else (if a0 ≥ 256 then (if 0 ≤ ((a0 / 256) % 256) then (if ((a0 / 256) % 256) < 256 then (some (wrap64 ((0 + 8) + (wrap64 (bt (⟨#[0, 1, 2, 2, 3, 3, 3, 3, 4, 4, 4, 4, 4, 4, 4, 4, 5, 5, 5, 5, 5, 5, 5, 5, 5, 5, 5, 5, 5, 5, 5, 5, 6, 6, 6, 6, 6, 6, 6, 6, 6, 6, 6, 6, 6, 6, 6, 6, 6, 6, 6, 6, 6, 6, 6, 6, 6, 6, 6, 6, 6, 6, 6, 6, 7, 7, 7, 7, 7, 7, 7, 7, 7, 7, 7, 7, 7, 7, 7, 7, 7, 7, 7, 7, 7, 7, 7, 7, 7, 7, 7, 7, 7, 7, 7, 7, 7, 7, 7, 7, 7, 7, 7, 7, 7, 7, 7, 7, 7, 7, 7, 7, 7, 7, 7, 7, 7, 7, 7, 7, 7, 7, 7, 7, 7, 7, 7, 7, 8, 8, 8, 8, 8, 8, 8, 8, 8, 8, 8, 8, 8, 8, 8, 8, 8, 8, 8, 8, 8, 8, 8, 8, 8, 8, 8, 8, 8, 8, 8, 8, 8, 8, 8, 8, 8, 8, 8, 8, 8, 8, 8, 8, 8, 8, 8, 8, 8, 8, 8, 8, 8, 8, 8, 8, 8, 8, 8, 8, 8, 8, 8, 8, 8, 8, 8, 8, 8, 8, 8, 8, 8, 8, 8, 8, 8, 8, 8, 8, 8, 8, 8, 8, 8, 8, 8, 8, 8, 8, 8, 8, 8, 8, 8, 8, 8, 8, 8, 8, 8, 8, 8, 8, 8, 8, 8, 8, 8, 8, 8, 8, 8, 8, 8, 8, 8, 8, 8, 8, 8, 8, 8, 8, 8, 8, 8, 8]⟩ : ByteArray) ((a0 / 256) % 256)))))) else (none)) else (none)) else (if 0 ≤ ((a0) % 256) then (if ((a0) % 256) < 256 then (some (wrap64 (0 + (wrap64 (bt (⟨#[0, 1, 2, 2, 3, 3, 3, 3, 4, 4, 4, 4, 4, 4, 4, 4, 5, 5, 5, 5, 5, 5, 5, 5, 5, 5, 5, 5, 5, 5, 5, 5, 6, 6, 6, 6, 6, 6, 6, 6, 6, 6, 6, 6, 6, 6, 6, 6, 6, 6, 6, 6, 6, 6, 6, 6, 6, 6, 6, 6, 6, 6, 6, 6, 7, 7, 7, 7, 7, 7, 7, 7, 7, 7, 7, 7, 7, 7, 7, 7, 7, 7, 7, 7, 7, 7, 7, 7, 7, 7, 7, 7, 7, 7, 7, 7, 7, 7, 7, 7, 7, 7, 7, 7, 7, 7, 7, 7, 7, 7, 7, 7, 7, 7, 7, 7, 7, 7, 7, 7, 7, 7, 7, 7, 7, 7, 7, 7, 8, 8, 8, 8, 8, 8, 8, 8, 8, 8, 8, 8, 8, 8, 8, 8, 8, 8, 8, 8, 8, 8, 8, 8, 8, 8, 8, 8, 8, 8, 8, 8, 8, 8, 8, 8, 8, 8, 8, 8, 8, 8, 8, 8, 8, 8, 8, 8, 8, 8, 8, 8, 8, 8, 8, 8, 8, 8, 8, 8, 8, 8, 8, 8, 8, 8, 8, 8, 8, 8, 8, 8, 8, 8, 8, 8, 8, 8, 8, 8, 8, 8, 8, 8, 8, 8, 8, 8, 8, 8, 8, 8, 8, 8, 8, 8, 8, 8, 8, 8, 8, 8, 8, 8, 8, 8, 8, 8, 8, 8, 8, 8, 8, 8, 8, 8, 8, 8, 8, 8, 8, 8, 8, 8, 8, 8, 8, 8]⟩ : ByteArray) ((a0) % 256)))))) else (none)) else (none)))
set_option maxHeartbeats 8000000 in
set_option maxRecDepth 100000 in
theorem bits_Len32.calls (a0 : Int) (r : Int) (w : World) (h : bits_Len32.f a0 = some r) :
  Calls Tryd.prog 99 #[.int .u32 a0] w fun e w' => e = .returned (.int .i64 r) ∧ Drawn0 w w' := by
 have H := h
 clear h
 unfold bits_Len32.f at H
 by_cases c2 : a0 ≥ 65536
 ·rw [if_pos c2] at H
  have c2b0 : decide (65536 ≤ a0) = true := decide_eq_true c2
  clear c2
  by_cases c3 : (a0 / 65536) ≥ 256
  ·rw [if_pos c3] at H
   have c3b0 : decide (256 ≤ (a0 / 65536)) = true := decide_eq_true c3
   clear c3
   obtain ⟨ji4, hji4⟩ : ∃ j_ : Int, (((a0 / 65536) / 256) % 256) = j_ := ⟨_, rfl⟩
   first | rw [hji4] at H | simp only [hji4] at H
   obtain ⟨c5, H⟩ : (0 ≤ (ji4)) ∧ _ := it_ H
   have c5b0 := decide_eq_true c5
   clear c5
   obtain ⟨c6, H⟩ : ((ji4) < 256) ∧ _ := it_ H
   have c6b0 := decide_eq_true c6
   clear c6
   obtain rfl := Option.some.inj H
   have p7 : 0 ≤ ((ji4) : Int) := od_
   have q7 : (ji4) < (256 : Int) := od_
   have hx7 := bt_at (⟨#[0, 1, 2, 2, 3, 3, 3, 3, 4, 4, 4, 4, 4, 4, 4, 4, 5, 5, 5, 5, 5, 5, 5, 5, 5, 5, 5, 5, 5, 5, 5, 5, 6, 6, 6, 6, 6, 6, 6, 6, 6, 6, 6, 6, 6, 6, 6, 6, 6, 6, 6, 6, 6, 6, 6, 6, 6, 6, 6, 6, 6, 6, 6, 6, 7, 7, 7, 7, 7, 7, 7, 7, 7, 7, 7, 7, 7, 7, 7, 7, 7, 7, 7, 7, 7, 7, 7, 7, 7, 7, 7, 7, 7, 7, 7, 7, 7, 7, 7, 7, 7, 7, 7, 7, 7, 7, 7, 7, 7, 7, 7, 7, 7, 7, 7, 7, 7, 7, 7, 7, 7, 7, 7, 7, 7, 7, 7, 7, 8, 8, 8, 8, 8, 8, 8, 8, 8, 8, 8, 8, 8, 8, 8, 8, 8, 8, 8, 8, 8, 8, 8, 8, 8, 8, 8, 8, 8, 8, 8, 8, 8, 8, 8, 8, 8, 8, 8, 8, 8, 8, 8, 8, 8, 8, 8, 8, 8, 8, 8, 8, 8, 8, 8, 8, 8, 8, 8, 8, 8, 8, 8, 8, 8, 8, 8, 8, 8, 8, 8, 8, 8, 8, 8, 8, 8, 8, 8, 8, 8, 8, 8, 8, 8, 8, 8, 8, 8, 8, 8, 8, 8, 8, 8, 8, 8, 8, 8, 8, 8, 8, 8, 8, 8, 8, 8, 8, 8, 8, 8, 8, 8, 8, 8, 8, 8, 8, 8, 8, 8, 8, 8, 8, 8, 8, 8, 8]⟩ : ByteArray) (ji4)
   replace p7 := eq_true p7
   replace q7 := eq_true q7
   go_enter Tryd.func99, Tryd.ntmps99
   go_wp2
   go_ret
   exact ⟨by first | rfl | (simp; done) | (simp only [← hji4] <;> (first | rfl | simp)) | (simp [*]; done), by repeat (first | exact Drawn0.refl _ | apply Drawn0.step)⟩
  ·rw [if_neg c3] at H
   have c3b0 : decide (256 ≤ (a0 / 65536)) = false := decide_eq_false c3
   clear c3
   obtain ⟨ji8, hji8⟩ : ∃ j_ : Int, ((a0 / 65536) % 256) = j_ := ⟨_, rfl⟩
   first | rw [hji8] at H | simp only [hji8] at H
   obtain ⟨c9, H⟩ : (0 ≤ (ji8)) ∧ _ := it_ H
   have c9b0 := decide_eq_true c9
   clear c9
   obtain ⟨c10, H⟩ : ((ji8) < 256) ∧ _ := it_ H
   have c10b0 := decide_eq_true c10
   clear c10
   obtain rfl := Option.some.inj H
   have p11 : 0 ≤ ((ji8) : Int) := od_
   have q11 : (ji8) < (256 : Int) := od_
   have hx11 := bt_at (⟨#[0, 1, 2, 2, 3, 3, 3, 3, 4, 4, 4, 4, 4, 4, 4, 4, 5, 5, 5, 5, 5, 5, 5, 5, 5, 5, 5, 5, 5, 5, 5, 5, 6, 6, 6, 6, 6, 6, 6, 6, 6, 6, 6, 6, 6, 6, 6, 6, 6, 6, 6, 6, 6, 6, 6, 6, 6, 6, 6, 6, 6, 6, 6, 6, 7, 7, 7, 7, 7, 7, 7, 7, 7, 7, 7, 7, 7, 7, 7, 7, 7, 7, 7, 7, 7, 7, 7, 7, 7, 7, 7, 7, 7, 7, 7, 7, 7, 7, 7, 7, 7, 7, 7, 7, 7, 7, 7, 7, 7, 7, 7, 7, 7, 7, 7, 7, 7, 7, 7, 7, 7, 7, 7, 7, 7, 7, 7, 7, 8, 8, 8, 8, 8, 8, 8, 8, 8, 8, 8, 8, 8, 8, 8, 8, 8, 8, 8, 8, 8, 8, 8, 8, 8, 8, 8, 8, 8, 8, 8, 8, 8, 8, 8, 8, 8, 8, 8, 8, 8, 8, 8, 8, 8, 8, 8, 8, 8, 8, 8, 8, 8, 8, 8, 8, 8, 8, 8, 8, 8, 8, 8, 8, 8, 8, 8, 8, 8, 8, 8, 8, 8, 8, 8, 8, 8, 8, 8, 8, 8, 8, 8, 8, 8, 8, 8, 8, 8, 8, 8, 8, 8, 8, 8, 8, 8, 8, 8, 8, 8, 8, 8, 8, 8, 8, 8, 8, 8, 8, 8, 8, 8, 8, 8, 8, 8, 8, 8, 8, 8, 8, 8, 8, 8, 8, 8, 8]⟩ : ByteArray) (ji8)
   replace p11 := eq_true p11
   replace q11 := eq_true q11
   go_enter Tryd.func99, Tryd.ntmps99
   go_wp2
   go_ret
   exact ⟨by first | rfl | (simp; done) | (simp only [← hji8] <;> (first | rfl | simp)) | (simp [*]; done), by repeat (first | exact Drawn0.refl _ | apply Drawn0.step)⟩
 ·rw [if_neg c2] at H
  have c2b0 : decide (65536 ≤ a0) = false := decide_eq_false c2
  clear c2
  by_cases c12 : a0 ≥ 256
  ·rw [if_pos c12] at H
   have c12b0 : decide (256 ≤ a0) = true := decide_eq_true c12
   clear c12
   obtain ⟨ji13, hji13⟩ : ∃ j_ : Int, ((a0 / 256) % 256) = j_ := ⟨_, rfl⟩
   first | rw [hji13] at H | simp only [hji13] at H
   obtain ⟨c14, H⟩ : (0 ≤ (ji13)) ∧ _ := it_ H
   have c14b0 := decide_eq_true c14
   clear c14
   obtain ⟨c15, H⟩ : ((ji13) < 256) ∧ _ := it_ H
   have c15b0 := decide_eq_true c15
   clear c15
   obtain rfl := Option.some.inj H
   have p16 : 0 ≤ ((ji13) : Int) := od_
   have q16 : (ji13) < (256 : Int) := od_
   have hx16 := bt_at (⟨#[0, 1, 2, 2, 3, 3, 3, 3, 4, 4, 4, 4, 4, 4, 4, 4, 5, 5, 5, 5, 5, 5, 5, 5, 5, 5, 5, 5, 5, 5, 5, 5, 6, 6, 6, 6, 6, 6, 6, 6, 6, 6, 6, 6, 6, 6, 6, 6, 6, 6, 6, 6, 6, 6, 6, 6, 6, 6, 6, 6, 6, 6, 6, 6, 7, 7, 7, 7, 7, 7, 7, 7, 7, 7, 7, 7, 7, 7, 7, 7, 7, 7, 7, 7, 7, 7, 7, 7, 7, 7, 7, 7, 7, 7, 7, 7, 7, 7, 7, 7, 7, 7, 7, 7, 7, 7, 7, 7, 7, 7, 7, 7, 7, 7, 7, 7, 7, 7, 7, 7, 7, 7, 7, 7, 7, 7, 7, 7, 8, 8, 8, 8, 8, 8, 8, 8, 8, 8, 8, 8, 8, 8, 8, 8, 8, 8, 8, 8, 8, 8, 8, 8, 8, 8, 8, 8, 8, 8, 8, 8, 8, 8, 8, 8, 8, 8, 8, 8, 8, 8, 8, 8, 8, 8, 8, 8, 8, 8, 8, 8, 8, 8, 8, 8, 8, 8, 8, 8, 8, 8, 8, 8, 8, 8, 8, 8, 8, 8, 8, 8, 8, 8, 8, 8, 8, 8, 8, 8, 8, 8, 8, 8, 8, 8, 8, 8, 8, 8, 8, 8, 8, 8, 8, 8, 8, 8, 8, 8, 8, 8, 8, 8, 8, 8, 8, 8, 8, 8, 8, 8, 8, 8, 8, 8, 8, 8, 8, 8, 8, 8, 8, 8, 8, 8, 8, 8]⟩ : ByteArray) (ji13)
   replace p16 := eq_true p16
   replace q16 := eq_true q16
   go_enter Tryd.func99, Tryd.ntmps99
   go_wp2
   go_ret
   exact ⟨by first | rfl | (simp; done) | (simp only [← hji13] <;> (first | rfl | simp)) | (simp [*]; done), by repeat (first | exact Drawn0.refl _ | apply Drawn0.step)⟩
  ·rw [if_neg c12] at H
   have c12b0 : decide (256 ≤ a0) = false := decide_eq_false c12
   clear c12
   obtain ⟨ji17, hji17⟩ : ∃ j_ : Int, ((a0) % 256) = j_ := ⟨_, rfl⟩
   first | rw [hji17] at H | simp only [hji17] at H
   obtain ⟨c18, H⟩ : (0 ≤ (ji17)) ∧ _ := it_ H
   have c18b0 := decide_eq_true c18
   clear c18
   obtain ⟨c19, H⟩ : ((ji17) < 256) ∧ _ := it_ H
   have c19b0 := decide_eq_true c19
   clear c19
   obtain rfl := Option.some.inj H
   have p20 : 0 ≤ ((ji17) : Int) := od_
   have q20 : (ji17) < (256 : Int) := od_
   have hx20 := bt_at (⟨#[0, 1, 2, 2, 3, 3, 3, 3, 4, 4, 4, 4, 4, 4, 4, 4, 5, 5, 5, 5, 5, 5, 5, 5, 5, 5, 5, 5, 5, 5, 5, 5, 6, 6, 6, 6, 6, 6, 6, 6, 6, 6, 6, 6, 6, 6, 6, 6, 6, 6, 6, 6, 6, 6, 6, 6, 6, 6, 6, 6, 6, 6, 6, 6, 7, 7, 7, 7, 7, 7, 7, 7, 7, 7, 7, 7, 7, 7, 7, 7, 7, 7, 7, 7, 7, 7, 7, 7, 7, 7, 7, 7, 7, 7, 7, 7, 7, 7, 7, 7, 7, 7, 7, 7, 7, 7, 7, 7, 7, 7, 7, 7, 7, 7, 7, 7, 7, 7, 7, 7, 7, 7, 7, 7, 7, 7, 7, 7, 8, 8, 8, 8, 8, 8, 8, 8, 8, 8, 8, 8, 8, 8, 8, 8, 8, 8, 8, 8, 8, 8, 8, 8, 8, 8, 8, 8, 8, 8, 8, 8, 8, 8, 8, 8, 8, 8, 8, 8, 8, 8, 8, 8, 8, 8, 8, 8, 8, 8, 8, 8, 8, 8, 8, 8, 8, 8, 8, 8, 8, 8, 8, 8, 8, 8, 8, 8, 8, 8, 8, 8, 8, 8, 8, 8, 8, 8, 8, 8, 8, 8, 8, 8, 8, 8, 8, 8, 8, 8, 8, 8, 8, 8, 8, 8, 8, 8, 8, 8, 8, 8, 8, 8, 8, 8, 8, 8, 8, 8, 8, 8, 8, 8, 8, 8, 8, 8, 8, 8, 8, 8, 8, 8, 8, 8, 8, 8]⟩ : ByteArray) (ji17)
   replace p20 := eq_true p20
   replace q20 := eq_true q20
   go_enter Tryd.func99, Tryd.ntmps99
   go_wp2
   go_ret
   exact ⟨by first | rfl | (simp; done) | (simp only [← hji17] <;> (first | rfl | simp)) | (simp [*]; done), by repeat (first | exact Drawn0.refl _ | apply Drawn0.step)⟩

def bits_LeadingZeros32.f (a0 : Int) : Option (Int) := (bits_Len32.f a0).bind fun t177 => (some (wrap64 (32 - t177)))
set_option maxHeartbeats 8000000 in
set_option maxRecDepth 100000 in
theorem bits_LeadingZeros32.calls (a0 : Int) (r : Int) (w : World) (h : bits_LeadingZeros32.f a0 = some r) :
  Calls Tryd.prog 89 #[.int .u32 a0] w fun e w' => e = .returned (.int .i64 r) ∧ Drawn0 w w' := by
 have H : ((bits_Len32.f a0).bind fun t177 => (some (wrap64 (32 - t177)))) = some r := h
 clear h
 revert H
 refine bd_ fun t177 A2 H => ?_
 obtain rfl := Option.some.inj H
 go_enter Tryd.func89, Tryd.ntmps89
 go_wp2_with (first | ((with_reducible refine gate_callee (f := 99) rfl ?_); refine gl_ (some 4) Tryd.func99 #[.int .u32 a0] ?_; (with_reducible refine (bits_Len32.calls a0 t177 _ A2.out).mono ?_); rintro e w' ⟨rfl, ⟨nd, rfl⟩⟩; refine ⟨_, rfl, ?_⟩))
 go_ret
 exact ⟨by first | rfl | (simp; done) | (simp [*]; done), by repeat (first | exact Drawn0.refl _ | apply Drawn0.step)⟩

def ratio_shifted.l0 : Nat → Int → List Int → List Int → Int → Int → Option (List Int)
 | 0, _, _, _, _, _ => none
 | k + 1, x1, x5, x13, x14, x15 => if x15 < x14 then (if 0 ≤ x15 then (if x15 < (x13.length : Int) then (if 0 ≤ x1 then (if x15 < (x5.length : Int) then (if 0 ≤ (wrap64 (x15 + 1)) then (if (wrap64 (x15 + 1)) < (x5.length : Int) then (ratio_shifted.l0 k x1 ((x5.set (x15 : Int).toNat (Go.bits .or .u32 (rd x5 x15) ((shl .u64 (IntKind.u64.wrap (rd x13 x15)) x1) % 4294967296))).set ((wrap64 (x15 + 1)) : Int).toNat (((shl .u64 (IntKind.u64.wrap (rd x13 x15)) x1) / 4294967296) % 4294967296)) x13 x14 (wrap64 (x15 + 1))) else (none)) else (none)) else (none)) else (none)) else (none)) else (none)) else (some x5)
def ratio_shifted.f (k : Nat) (l0 : List Int) (a1 : Int) : Option (List Int) := if 0 ≤ (wrap64 ((l0.length : Int) + 1)) then (if (wrap64 ((l0.length : Int) + 1) : Int).toNat ≤ 70368744177664 then (ratio_shifted.l0 k a1 (List.replicate (wrap64 ((l0.length : Int) + 1) : Int).toNat 0) l0 (l0.length : Int) 0) else (none)) else (none)
theorem ratio_shifted.mono_l : ∀ k, (∀ y0 y1 y2 y3 y4, LeO (ratio_shifted.l0 k y0 y1 y2 y3 y4) (ratio_shifted.l0 (k + 1) y0 y1 y2 y3 y4))
 | 0 => fun _ _ _ _ _ r h => by simp [ratio_shifted.l0] at h
 | k + 1 => by
  have ih0 := ratio_shifted.mono_l k
  ·intro y0 y1 y2 y3 y4
   unfold ratio_shifted.l0
   with_reducible repeat' first | apply ih0 | exact LeO.refl _ | exact LeO.none _ | refine LeO.ite ?_ ?_ | refine LeO.bind ?_ (fun _ => ?_)
theorem ratio_shifted.mono : ∀ a0 a1 k, LeO (ratio_shifted.f k a0 a1) (ratio_shifted.f (k + 1) a0 a1) := by
 intro a0 a1 k
 have ih0 := ratio_shifted.mono_l k
 unfold ratio_shifted.f
 with_reducible repeat' first | apply ih0 | exact LeO.refl _ | exact LeO.none _ | refine LeO.ite ?_ ?_ | refine LeO.bind ?_ (fun _ => ?_)
set_option maxHeartbeats 8000000 in
set_option maxRecDepth 100000 in
theorem ratio_shifted.calls (k : Nat) (A0 : Option Addr) (c0 : Nat) (l0 : List Int) (a1 : Int) (r : List Int) (w : World) (hr0 : Kd.C (Kd.int .u32) w A0 l0.length l0) (hc0 : l0.length ≤ c0) (h : ratio_shifted.f k l0 a1 = some r) :
  Calls Tryd.prog 90 #[.slice A0 l0.length c0, .int .i64 a1] w fun e w' => ∃ v0_ : Value, e = .returned (v0_) ∧ Kd.R (Kd.int .u32) 44 w' w.heap.size (fun _ => True) v0_ r ∧ Below w.heap.size w w' := by
 have HR0 := ak hr0
 have HC0 := ak hc0
 clear hr0 hc0
 have HB := ak (Below.refl w.heap.size w)
 have H := h
 clear h
 unfold ratio_shifted.f at H
 obtain ⟨ji3, hji3⟩ : ∃ j_ : Int, (wrap64 ((l0.length : Int) + 1)) = j_ := ⟨_, rfl⟩
 first | rw [hji3] at H | simp only [hji3] at H
 have hji3w : (IntKind.i64.wrap ((l0.length : Int) + 1)) = ji3 := (i64_w _).trans hji3
 obtain ⟨c4, H⟩ : (0 ≤ (ji3)) ∧ _ := it_ H
 have c4b0 := eq_true c4
 have c4b1 := decide_eq_true c4
 clear c4
 obtain ⟨c5, H⟩ : ((ji3 : Int).toNat ≤ 70368744177664) ∧ _ := it_ H
 have c5b0 := eq_true c5
 have c5b1 := decide_eq_true c5
 clear c5
 obtain ⟨y178, hy178⟩ : ∃ y_ : List Int, y_ = (List.replicate (ji3 : Int).toNat 0) := ⟨_, rfl⟩
 first | rw [Option.bind_some, ← hy178] at H | rw [← hy178] at H
 have Ny178 := ak hy178
 clear hy178
 have H' := ak H
 clear H
 go_enter Tryd.func90, Tryd.ntmps90
 go_wp2_with (first | ((with_reducible refine gate_dst (N := 12) rfl ?_); refine R_make (Kd.int .u32) _ 44 rfl (N := 12) rfl 23 _ _ rfl ji3 ?hx ?hy Tryd.underlying23 (.int .u32 0) 4 info44 rfl (by decide) (by omega) 0 (ok := fun _ => True) (okp := fun _ => True) rfl (fun _ hk => hk) trivial od_ (Nat.le_trans (Nat.mul_le_mul_right _ (od_ : ji3.toNat ≤ 70368744177664)) (by omega)) (Below.refl _ _) (Nat.le_refl _) ?_; (case hx => first | rfl | (simp only [hji3]; rfl)); (case hy => first | rfl | (simp only [hji3]; rfl)); intro v179 w6 ho7 hb hg_ hnew_; clear hg_ hnew_; (first | rw [← Ny178.out] at ho7 | (simp only [Int.reduceToNat] at ho7; rw [← Ny178.out] at ho7)); refine nx2_ (R_lower ho7 (below_size (bU_ HB.out))) (below_step (bU_ HB.out) hb) ?_; clear HB; intro HO180 HB; clear hb ho7))
 go_loopg [15] k (fun kq v15 w' => ∃ (x5_1 : List Int) (x15_1 : Int), v15 = .int .i64 x15_1 ∧ Aside0 (ratio_shifted.l0 kq a1 x5_1 l0 (l0.length : Int) x15_1 = some r) ∧ Aside0 (kq ≤ k) ∧ Aside0 (Kd.R (Kd.int .u32) 44 w' w.heap.size (fun _ => True) v179 x5_1) ∧ Aside0 (Below w.heap.size w w'))
 case atStart => exact ⟨(y178), (0), gb_, H', ⟨Nat.le_refl _⟩, ⟨rU_ HO180.out⟩, ⟨bU_ HB.out⟩⟩
 case round =>
  clear H'
  (try clear p2); (try clear c4); (try clear c4b0); (try clear c4b1); (try clear c5); (try clear c5b0); (try clear c5b1); (try clear p6)
  obtain ⟨x5_1, x15_1, rfl, HA, HK1, HO_5, HB⟩ := hrel
  cases gk with
  | zero => exact absurd HA.out (by simp [ratio_shifted.l0])
  | succ k1 =>
   have H := HA.out
   clear HA
   simp only [ratio_shifted.l0] at H
   by_cases c8 : x15_1 < (l0.length : Int)
   ·rw [if_pos c8] at H
    have c8b0 := decide_eq_true c8
    clear c8
    obtain ⟨c9, H⟩ : (0 ≤ x15_1) ∧ _ := it_ H
    have c9b0 := decide_eq_true c9
    clear c9
    obtain ⟨c10, H⟩ : (x15_1 < (l0.length : Int)) ∧ _ := it_ H
    have c10b0 := decide_eq_true c10
    clear c10
    obtain ⟨c11, H⟩ : (0 ≤ a1) ∧ _ := it_ H
    have c11b0 := eq_true c11
    have c11b1 := decide_eq_true c11
    clear c11
    obtain ⟨ji12, hji12⟩ : ∃ j_ : Int, (shl .u64 (IntKind.u64.wrap (rd l0 x15_1)) a1) = j_ := ⟨_, rfl⟩
    first | rw [hji12] at H | simp only [hji12] at H
    have hji12_ : (IntKind.u64.wrap ((IntKind.u64.wrap (rd l0 x15_1)) * 2 ^ min a1.toNat 64)) = ji12 := hji12
    have hji12z : a1 ≤ 64 → (IntKind.u64.wrap ((IntKind.u64.wrap (rd l0 x15_1)) * 2 ^ a1.toNat)) = ji12 := shl_small hji12
    obtain ⟨c13, H⟩ : (x15_1 < (x5_1.length : Int)) ∧ _ := it_ H
    have c13b0 := decide_eq_true c13
    clear c13
    obtain ⟨y183, hy183⟩ : ∃ y_ : List Int, y_ = (x5_1.set (x15_1 : Int).toNat (Go.bits .or .u32 (rd x5_1 x15_1) ((ji12) % 4294967296))) := ⟨_, rfl⟩
    first | rw [Option.bind_some, ← hy183] at H | rw [← hy183] at H
    have Ny183 := ak hy183
    clear hy183
    obtain ⟨ji15, hji15⟩ : ∃ j_ : Int, (wrap64 (x15_1 + 1)) = j_ := ⟨_, rfl⟩
    first | rw [hji15] at H | simp only [hji15] at H
    have hji15w : (IntKind.i64.wrap (x15_1 + 1)) = ji15 := (i64_w _).trans hji15
    obtain ⟨c16, H⟩ : (0 ≤ (ji15)) ∧ _ := it_ H
    have c16b0 := decide_eq_true c16
    clear c16
    obtain ⟨c17, H⟩ : ((ji15) < (x5_1.length : Int)) ∧ _ := it_ H
    have c17b0 := decide_eq_true c17
    clear c17
    obtain ⟨y184, hy184⟩ : ∃ y_ : List Int, y_ = (y183.set ((ji15) : Int).toNat (((ji12) / 4294967296) % 4294967296)) := ⟨_, rfl⟩
    first | rw [Option.bind_some, ← hy184] at H | rw [← hy184] at H
    have Ny184 := ak hy184
    clear hy184
    have H' := ak H
    clear H
    have p181 : 0 ≤ (x15_1 : Int) := od_
    have q181 : x15_1 < (l0.length : Int) := od_
    obtain ⟨ad181, e181, hx181_0⟩ := Kd.at_int HR0.out x15_1 p181 q181
    cases e181
    replace hx181_0 := (HB.out.cell (World.block_lt_of_cell? w _ hx181_0)).trans hx181_0
    replace p181 := eq_true p181
    replace q181 := eq_true q181
    obtain ⟨Ao20, co20, eo20⟩ := R_slice HO_5.out
    subst eo20
    have pfr19 : 0 ≤ (x15_1 : Int) := od_
    have qfr19 : (x15_1 : Int) < ((x5_1.length : Int) : Int) := od_
    obtain ⟨gofr19, cofr19, eofr19, gbfr19, glfr19, clfr19, HGfr19⟩ := Kd.R_form HO_5.out (by omega)
    (first | cases eofr19 | (injection eofr19 with ea_ en_ ec_; (first | subst ea_ | (injection ea_ with ea_; subst ea_)); subst ec_; clear en_))
    have GBfr19 := ak gbfr19
    have GGfr19 := ak HGfr19
    clear gbfr19 glfr19 HGfr19
    clear pfr19 qfr19
    have p182 : 0 ≤ (x15_1 : Int) := od_
    have q182 : x15_1 < (x5_1.length : Int) := od_
    obtain ⟨ad182, e182, hx182_0⟩ := Kd.at_int (R_reads' HO_5.out).2.2 x15_1 p182 q182
    obtain rfl : (⟨gofr19, 0, none⟩ : Addr) = ad182 := (by injection e182)
    (first | simp only [add_plain] at hx182_0 | simp only [add_at] at hx182_0 | simp only [Addr.add, Nat.zero_add] at hx182_0 | skip)
    replace p182 := eq_true p182
    replace q182 := eq_true q182
    have p14 : 0 ≤ (x15_1 : Int) := od_
    have q14 : (x15_1 : Int) < ((x5_1.length : Int) : Int) := od_
    obtain ⟨hx14_0, hf14_0⟩ := Kd.R_celln 0 HO_5.out (x15_1 : Int) p14 q14
    replace p14 := eq_true p14
    replace q14 := eq_true q14
    have HP21 := Kd.R_putg HO_5.out (x15_1 : Int) (Go.bits .or .u32 (rd x5_1 x15_1) ((ji12) % 4294967296))
    go_wp2_with (first | ((with_reducible refine gate_store (t := 44) (p := 31) rfl ?_); refine store_event (t := 44) (p := 31) (v := ?vo_w22) (w1 := (wr.setCell ⟨gofr19, (x15_1 : Int).toNat, none⟩ (.int .u32 (Go.bits .or .u32 (rd x5_1 x15_1) ((ji12) % 4294967296))))) ?hg ?ho ?hn ?hr ?_; (case ho => rfl); (case hg => rfl); (case hn => rfl); (case hr => first | (go_simp; done) | (go_simp; rfl)); intro w22 hw; have hg : wr.grownBy w22 (some gofr19) := (by rw [hw]; exact HP21.2); have hp_ : Kd.R (Kd.int .u32) 44 w22 w.heap.size (fun _ => True) (.slice (some ⟨gofr19, 0, none⟩) x5_1.length co20) y183 := (by rw [hw, Ny183.out]; exact HP21.1); clear HP21; refine nx2_ (hp_) ((by rw [hw]; exact below_set (HB.out) GBfr19.out : Below w.heap.size w w22)) ?_; clear HO_5 HB; intro HO_5 HB; clear hg hw hp_; have p18 : 0 ≤ ((ji15) : Int) := od_; have q18 : ((ji15) : Int) < ((x5_1.length : Int) : Int) := od_; obtain ⟨hx18_0, hf18_0⟩ := Kd.R_celln 0 HO_5.out ((ji15) : Int) p18 q18; replace p18 := eq_true p18; replace q18 := eq_true q18; obtain ⟨hy23_, hz23_⟩ := Kd.R_celln 0 HO_5.out ((ji15) : Int) od_ od_; have HP23 := Kd.R_putg HO_5.out ((ji15) : Int) (((ji12) / 4294967296) % 4294967296)) | ((with_reducible refine gate_store (t := 44) (p := 38) rfl ?_); refine store_event (t := 44) (p := 38) (v := ?vo_w24) (w1 := (w22.setCell ⟨gofr19, ((ji15) : Int).toNat, none⟩ (.int .u32 (((ji12) / 4294967296) % 4294967296)))) ?hg ?ho ?hn ?hr ?_; (case ho => rfl); (case hg => rfl); (case hn => rfl); (case hr => first | (go_simp; done) | (go_simp; rfl)); intro w24 hw; have hg : w22.grownBy w24 (some gofr19) := (by rw [hw]; exact HP23.2); have hp_ : Kd.R (Kd.int .u32) 44 w24 w.heap.size (fun _ => True) (.slice (some ⟨gofr19, 0, none⟩) x5_1.length co20) y184 := (by rw [hw, Ny184.out]; exact HP23.1); clear HP23; refine nx2_ (hp_) ((by rw [hw]; exact below_set (HB.out) GBfr19.out : Below w.heap.size w w24)) ?_; clear HO_5 HB; intro HO_5 HB; clear hg hw hp_))
    go_roundg k1
    case measure => have := HK1.out; omega
    case rel => exact ⟨(y184), (ji15), (by first | rfl | (simp; done) | (simp only [← hji15] <;> (first | rfl | simp)) | (simp [*]; done)), H', ⟨by have := HK1.out; omega⟩, ⟨rU_ HO_5.out⟩, ⟨bU_ HB.out⟩⟩
   ·rw [if_neg c8] at H
    have c8b0 := decide_eq_false c8
    clear c8
    obtain rfl := Option.some.inj H
    go_wp2
    go_ret
    exact ⟨_, by first | rfl | (simp [errW_none, errW_some] <;> rfl) | (simp only [← hji3]; first | rfl | (simp [errW_none, errW_some] <;> rfl)) | (simp [*, errW_none, errW_some] <;> rfl), rU_ HO_5.out, bU_ HB.out⟩

def bits_Sub32.f (a0 : Int) (a1 : Int) (a2 : Int) : Option (Int × Int) := some ((((a0 - a1) % 4294967296) - a2) % 4294967296, (Go.bits .or .u32 (Go.bits .and .u32 (Go.bits .xor .u32 (IntKind.u32.max) a0) a1) (Go.bits .and .u32 (Go.bits .xor .u32 (IntKind.u32.max) (Go.bits .xor .u32 a0 a1)) ((((a0 - a1) % 4294967296) - a2) % 4294967296))) / 2147483648)
set_option maxHeartbeats 8000000 in
set_option maxRecDepth 100000 in
theorem bits_Sub32.calls (a0 : Int) (a1 : Int) (a2 : Int) (r1 : Int) (r2 : Int) (w : World) (h : bits_Sub32.f a0 a1 a2 = some (r1, r2)) :
  Calls Tryd.prog 92 #[.int .u32 a0, .int .u32 a1, .int .u32 a2] w fun e w' => e = .returned (.tuple #[.int .u32 r1, .int .u32 r2]) ∧ Drawn0 w w' := by
 have H := h
 clear h
 unfold bits_Sub32.f at H
 simp only [Option.some.injEq, Prod.mk.injEq] at H
 obtain ⟨rfl, rfl⟩ := H
 go_enter Tryd.func92, Tryd.ntmps92
 go_wp2
 go_ret2
 exact ⟨by first | rfl | (simp; done) | (simp [*]; done), by repeat (first | exact Drawn0.refl _ | apply Drawn0.step)⟩

end Go.Proofs.YtjjjoepnlhpjdaaDoor.Q

import Derived.Test.YtjjjoepnlhpjdaaDoorQ0
import Derived.Test.YtjjjoepnlhpjdaaDoorQ1
namespace Go.Proofs.YtjjjoepnlhpjdaaDoor.Q
open Go.RowKit Go.Proofs.YtjjjoepnlhpjdaaDoorW.PrintWords Go.Proofs.YtjjjoepnlhpjdaaDoorW.PrintLast Go.Proofs.YtjjjoepnlhpjdaaDoorW.PrintMore
open Kd (R_below R_mono R_far R_lower R_new' R_newM R_elder' R_base R_lt R_slice R_reads' R_V R_tight R_make V_below V_mono V_far V_lower V_elder' V_slice V_reads' V_mk C_below F_below C_F fresh' freshB R_drew V_drew heap_int)
attribute [local go_sem] max2_int min2_int max_two min_two max_three min_three max_four min_four   -- for this text's walks alone
set_option linter.unusedVariables false
set_option linter.unusedSimpArgs false

mutual
def ratio_digit.j2 : Nat → List Int → List Int → Int → Int → Option (Int × List Int)
 | 0, _, _, _, _ => none
 | k + 1, x0, x1, x5, x7 => ratio_digit.l1 k x0 x1 x5 x7 0 0 x1 (x1.length : Int) 0
def ratio_digit.l1 : Nat → List Int → List Int → Int → Int → Int → Int → List Int → Int → Int → Option (Int × List Int)
 | 0, _, _, _, _, _, _, _, _, _ => none
 | k + 1, x0, x1, x5, x7, x9, x10, x84, x85, x86 => if x86 < x85 then (if 0 ≤ x86 then (if x86 < (x84.length : Int) then (if x86 < (x0.length : Int) then ((bits_Sub32.f (rd x0 x86) ((IntKind.u64.wrap ((IntKind.u64.wrap (x7 * (IntKind.u64.wrap (rd x84 x86)))) + x9)) % 4294967296) x10).bind fun bt194 => (ratio_digit.l1 k (x0.set (x86 : Int).toNat bt194.1) x1 x5 x7 ((IntKind.u64.wrap ((IntKind.u64.wrap (x7 * (IntKind.u64.wrap (rd x84 x86)))) + x9)) / 4294967296) bt194.2 x84 x85 (wrap64 (x86 + 1)))) else (none)) else (none)) else (none)) else (if 0 ≤ x5 then (if x5 < (x0.length : Int) then ((bits_Sub32.f (rd x0 x5) ((x9) % 4294967296) x10).bind fun bt198 => ((some (x0.set (x5 : Int).toNat bt198.1 : List Int)).bind fun y200 => (if bt198.2 = 0 then (some ((x7) % 4294967296, y200)) else (ratio_digit.l2 k y200 x5 x7 0 x1 (x1.length : Int) 0)))) else (none)) else (none))
def ratio_digit.l2 : Nat → List Int → Int → Int → Int → List Int → Int → Int → Option (Int × List Int)
 | 0, _, _, _, _, _, _, _ => none
 | k + 1, x0, x5, x7, x14, x132, x133, x134 => if x134 < x133 then (if 0 ≤ x134 then (if x134 < (x132.length : Int) then (if x134 < (x0.length : Int) then ((bits_Add32.f (rd x0 x134) (rd x132 x134) x14).bind fun bt203 => (ratio_digit.l2 k (x0.set (x134 : Int).toNat bt203.1) x5 x7 bt203.2 x132 x133 (wrap64 (x134 + 1)))) else (none)) else (none)) else (none)) else (if 0 ≤ x5 then (if x5 < (x0.length : Int) then (some ((IntKind.u64.wrap (x7 - 1)) % 4294967296, (x0.set (x5 : Int).toNat (((rd x0 x5) + x14) % 4294967296)))) else (none)) else (none))
def ratio_digit.l0 : Nat → List Int → List Int → Int → Int → Int → Option (Int × List Int)
 | 0, _, _, _, _, _ => none
 | k + 1, x0, x1, x5, x7, x8 => if (x7 / 4294967296) = 0 then (if 0 ≤ (wrap64 (x5 - 2)) then (if (wrap64 (x5 - 2)) < (x1.length : Int) then (if (wrap64 (x5 - 2)) < (x0.length : Int) then (ratio_digit.j1 k x0 x1 x5 x7 x8 (decide ((IntKind.u64.wrap (x7 * (IntKind.u64.wrap (rd x1 (wrap64 (x5 - 2)))))) > (Go.bits .or .u64 (IntKind.u64.wrap (x8 * 4294967296)) (IntKind.u64.wrap (rd x0 (wrap64 (x5 - 2)))))))) else (none)) else (none)) else (none)) else (ratio_digit.j1 k x0 x1 x5 x7 x8 true)
def ratio_digit.j1 : Nat → List Int → List Int → Int → Int → Int → Bool → Option (Int × List Int)
 | 0, _, _, _, _, _, _ => none
 | k + 1, x0, x1, x5, x7, x8, x70 => if x70 = true then (if 0 ≤ (wrap64 (x5 - 1)) then (if (wrap64 (x5 - 1)) < (x1.length : Int) then (if ((IntKind.u64.wrap (x8 + (IntKind.u64.wrap (rd x1 (wrap64 (x5 - 1)))))) / 4294967296) = 0 then (ratio_digit.l0 k x0 x1 x5 (IntKind.u64.wrap (x7 - 1)) (IntKind.u64.wrap (x8 + (IntKind.u64.wrap (rd x1 (wrap64 (x5 - 1))))))) else (ratio_digit.j2 k x0 x1 x5 (IntKind.u64.wrap (x7 - 1)))) else (none)) else (none)) else (ratio_digit.j2 k x0 x1 x5 x7)
end
def ratio_digit.f (k : Nat) (l0 : List Int) (l1 : List Int) : Option (Int × List Int) := if 0 ≤ (l1.length : Int) then (if (l1.length : Int) < (l0.length : Int) then (if 0 ≤ (wrap64 ((l1.length : Int) - 1)) then (if (wrap64 ((l1.length : Int) - 1)) < (l0.length : Int) then (if (wrap64 ((l1.length : Int) - 1)) < (l1.length : Int) then (if (IntKind.u64.wrap (rd l1 (wrap64 ((l1.length : Int) - 1)))) = 0 then (none) else (ratio_digit.l0 k l0 l1 (l1.length : Int) (IntKind.u64.wrap (Int.tdiv (Go.bits .or .u64 (IntKind.u64.wrap ((IntKind.u64.wrap (rd l0 (l1.length : Int))) * 4294967296)) (IntKind.u64.wrap (rd l0 (wrap64 ((l1.length : Int) - 1))))) (IntKind.u64.wrap (rd l1 (wrap64 ((l1.length : Int) - 1)))))) (Int.tmod (Go.bits .or .u64 (IntKind.u64.wrap ((IntKind.u64.wrap (rd l0 (l1.length : Int))) * 4294967296)) (IntKind.u64.wrap (rd l0 (wrap64 ((l1.length : Int) - 1))))) (IntKind.u64.wrap (rd l1 (wrap64 ((l1.length : Int) - 1))))))) else (none)) else (none)) else (none)) else (none)) else (none)
theorem ratio_digit.mono_l : ∀ k, (∀ y0 y1 y2 y3, LeO (ratio_digit.j2 k y0 y1 y2 y3) (ratio_digit.j2 (k + 1) y0 y1 y2 y3)) ∧ (∀ y0 y1 y2 y3 y4 y5 y6 y7 y8, LeO (ratio_digit.l1 k y0 y1 y2 y3 y4 y5 y6 y7 y8) (ratio_digit.l1 (k + 1) y0 y1 y2 y3 y4 y5 y6 y7 y8)) ∧ (∀ y0 y1 y2 y3 y4 y5 y6, LeO (ratio_digit.l2 k y0 y1 y2 y3 y4 y5 y6) (ratio_digit.l2 (k + 1) y0 y1 y2 y3 y4 y5 y6)) ∧ (∀ y0 y1 y2 y3 y4, LeO (ratio_digit.l0 k y0 y1 y2 y3 y4) (ratio_digit.l0 (k + 1) y0 y1 y2 y3 y4)) ∧ (∀ y0 y1 y2 y3 y4 y5, LeO (ratio_digit.j1 k y0 y1 y2 y3 y4 y5) (ratio_digit.j1 (k + 1) y0 y1 y2 y3 y4 y5))
 | 0 => ⟨fun _ _ _ _ r h => by simp [ratio_digit.j2] at h, fun _ _ _ _ _ _ _ _ _ r h => by simp [ratio_digit.l1] at h, fun _ _ _ _ _ _ _ r h => by simp [ratio_digit.l2] at h, fun _ _ _ _ _ r h => by simp [ratio_digit.l0] at h, fun _ _ _ _ _ _ r h => by simp [ratio_digit.j1] at h⟩
 | k + 1 => by
  obtain ⟨ih0, ih1, ih2, ih3, ih4⟩ := ratio_digit.mono_l k
  refine ⟨?_, ?_, ?_, ?_, ?_⟩
  ·intro y0 y1 y2 y3
   unfold ratio_digit.j2
   with_reducible repeat' first | apply ih0 | apply ih1 | apply ih2 | apply ih3 | apply ih4 | exact LeO.refl _ | exact LeO.none _ | refine LeO.ite ?_ ?_ | refine LeO.bind ?_ (fun _ => ?_)
  ·intro y0 y1 y2 y3 y4 y5 y6 y7 y8
   unfold ratio_digit.l1
   with_reducible repeat' first | apply ih0 | apply ih1 | apply ih2 | apply ih3 | apply ih4 | exact LeO.refl _ | exact LeO.none _ | refine LeO.ite ?_ ?_ | refine LeO.bind ?_ (fun _ => ?_)
  ·intro y0 y1 y2 y3 y4 y5 y6
   unfold ratio_digit.l2
   with_reducible repeat' first | apply ih0 | apply ih1 | apply ih2 | apply ih3 | apply ih4 | exact LeO.refl _ | exact LeO.none _ | refine LeO.ite ?_ ?_ | refine LeO.bind ?_ (fun _ => ?_)
  ·intro y0 y1 y2 y3 y4
   unfold ratio_digit.l0
   with_reducible repeat' first | apply ih0 | apply ih1 | apply ih2 | apply ih3 | apply ih4 | exact LeO.refl _ | exact LeO.none _ | refine LeO.ite ?_ ?_ | refine LeO.bind ?_ (fun _ => ?_)
  ·intro y0 y1 y2 y3 y4 y5
   unfold ratio_digit.j1
   with_reducible repeat' first | apply ih0 | apply ih1 | apply ih2 | apply ih3 | apply ih4 | exact LeO.refl _ | exact LeO.none _ | refine LeO.ite ?_ ?_ | refine LeO.bind ?_ (fun _ => ?_)
theorem ratio_digit.mono : ∀ a0 a1 k, LeO (ratio_digit.f k a0 a1) (ratio_digit.f (k + 1) a0 a1) := by
 intro a0 a1 k
 obtain ⟨ih0, ih1, ih2, ih3, ih4⟩ := ratio_digit.mono_l k
 unfold ratio_digit.f
 with_reducible repeat' first | apply ih0 | apply ih1 | apply ih2 | apply ih3 | apply ih4 | exact LeO.refl _ | exact LeO.none _ | refine LeO.ite ?_ ?_ | refine LeO.bind ?_ (fun _ => ?_)
set_option maxHeartbeats 8000000 in
set_option maxRecDepth 100000 in
theorem ratio_digit.calls (k off cf : Nat) (pre post : List Int) (P0_ : Nat → Prop) (u9000_ : Value) (l0 : List Int) (A1 : Option Addr) (c1 : Nat) (l1 : List Int) (r1 : Int) (r2 : List Int) (w0 w : World) (hB : Below w0.heap.size w0 w) (ho0 : Pd.R off cf pre post 44 w w0.heap.size P0_ u9000_ l0) (hr1 : ∀ W_, Kept w W_ (fun k_ => P0_ k_) → Kd.C (Kd.int .u32) W_ A1 l1.length l1) (hc1 : l1.length ≤ c1) (h : ratio_digit.f k l0 l1 = some (r1, r2)) :
  Calls Tryd.prog 91 #[u9000_, .slice A1 l1.length c1] w fun e w' => e = .returned (.int .u32 r1) ∧ Pd.R off cf pre post 44 w' w0.heap.size (fun k_ => (P0_ k_ ∨ w.heap.size ≤ k_)) u9000_ r2 ∧ Below w0.heap.size w0 w' ∧ Kept w w' (fun k_ => P0_ k_) := by
 have HO0 := ak (show Pd.R off cf pre post 44 w w0.heap.size (fun k_ => (P0_ k_ ∨ w.heap.size ≤ k_)) u9000_ l0 from Pd.R_mono ho0 (fun k_ hk => (.inl hk)))
 have HR1 := ak hr1
 have HC1 := ak hc1
 clear hr1 hc1
 have HK := ak (Kept.refl w (fun k_ => P0_ k_))
 have HW0 := ak hB.size
 have HB := ak hB
 clear hB
 have H := h
 clear h
 unfold ratio_digit.f at H
 obtain ⟨c3, H⟩ : (0 ≤ (l1.length : Int)) ∧ _ := it_ H
 have c3b0 := decide_eq_true c3
 have c3b1 : decide (0 ≤ l1.length) = true := decide_eq_true (by omega)
 clear c3
 obtain ⟨c4, H⟩ : ((l1.length : Int) < (l0.length : Int)) ∧ _ := it_ H
 have c4b0 := decide_eq_true c4
 have c4b1 : decide (l1.length < l0.length) = true := decide_eq_true (Int.ofNat_lt.mp c4)
 clear c4
 obtain ⟨ji5, hji5⟩ : ∃ j_ : Int, (wrap64 ((l1.length : Int) - 1)) = j_ := ⟨_, rfl⟩
 first | rw [hji5] at H | simp only [hji5] at H
 have hji5w : (IntKind.i64.wrap ((l1.length : Int) - 1)) = ji5 := (i64_w _).trans hji5
 obtain ⟨c6, H⟩ : (0 ≤ (ji5)) ∧ _ := it_ H
 have c6b0 := decide_eq_true c6
 clear c6
 obtain ⟨c7, H⟩ : ((ji5) < (l0.length : Int)) ∧ _ := it_ H
 have c7b0 := decide_eq_true c7
 clear c7
 obtain ⟨c8, H⟩ : ((ji5) < (l1.length : Int)) ∧ _ := it_ H
 have c8b0 := decide_eq_true c8
 clear c8
 by_cases c9 : (IntKind.u64.wrap (rd l1 (ji5))) = 0
 ·rw [if_pos c9] at H
  exact absurd H (by simp)
 ·rw [if_neg c9] at H
  have c9b0 := beq_eq_false_iff_ne.mpr c9
  have c9b1 := bne_iff_ne.mpr c9
  have HC10 := ak H
  clear H
  obtain ⟨Ao12, co12, eo12⟩ := Pd.R_slice HO0.out
  subst eo12
  have pfr11 : 0 ≤ ((l1.length : Int) : Int) := od_
  have qfr11 : ((l1.length : Int) : Int) < ((l0.length : Int) : Int) := od_
  obtain ⟨gofr11, cofr11, eofr11, gbfr11, glfr11, clfr11, HGfr11⟩ := Pd.R_form HO0.out (by omega)
  (first | cases eofr11 | (injection eofr11 with ea_ en_ ec_; (first | subst ea_ | (injection ea_ with ea_; subst ea_)); subst ec_; clear en_))
  have GBfr11 := ak gbfr11
  have GGfr11 := ak HGfr11
  clear gbfr11 glfr11 HGfr11
  have HMgofr11 := ak (show (P0_ gofr11 ∨ w.heap.size ≤ gofr11) from (HO0.out.1 _ rfl))
  clear pfr11 qfr11
  have p185 : 0 ≤ ((l1.length : Int) : Int) := od_
  have q185 : (l1.length : Int) < (l0.length : Int) := od_
  obtain ⟨ad185, e185, hx185_0⟩ := Kd.at_int (Pd.R_reads' HO0.out).2.2 (l1.length : Int) p185 q185
  obtain rfl : (⟨gofr11, off, none⟩ : Addr) = ad185 := (by injection e185)
  (first | simp only [add_plain] at hx185_0 | simp only [add_at] at hx185_0 | simp only [Addr.add, Nat.zero_add] at hx185_0 | skip)
  (try simp only [Go.IntWalk.toNatUp] at hx185_0)
  replace p185 := eq_true p185
  replace q185 := eq_true q185
  have p186 : 0 ≤ ((ji5) : Int) := od_
  have q186 : (ji5) < (l0.length : Int) := od_
  obtain ⟨ad186, e186, hx186_0⟩ := Kd.at_int (Pd.R_reads' HO0.out).2.2 (ji5) p186 q186
  obtain rfl : (⟨gofr11, off, none⟩ : Addr) = ad186 := (by injection e186)
  (first | simp only [add_plain] at hx186_0 | simp only [add_at] at hx186_0 | simp only [Addr.add, Nat.zero_add] at hx186_0 | skip)
  replace p186 := eq_true p186
  replace q186 := eq_true q186
  have p187 : 0 ≤ ((ji5) : Int) := od_
  have q187 : (ji5) < (l1.length : Int) := od_
  obtain ⟨ad187, e187, hx187_0⟩ := Kd.at_int (Kd.C_kept_now HR1.out HK.out) (ji5) p187 q187
  cases e187
  replace p187 := eq_true p187
  replace q187 := eq_true q187
  have p188 : 0 ≤ ((ji5) : Int) := od_
  have q188 : (ji5) < (l1.length : Int) := od_
  obtain ⟨ad188, e188, hx188_0⟩ := Kd.at_int (Kd.C_kept_now HR1.out HK.out) (ji5) p188 q188
  obtain rfl : ad187 = ad188 := (by injection e188)
  replace p188 := eq_true p188
  replace q188 := eq_true q188
  go_enter Tryd.func91, Tryd.ntmps91
  go_upto_block 0 with (fail)
  repeat (go_quiet (fail); go_upto_block 0 with (fail))
  go_cut [7] (fun v7 wc => ∃ (kq : Nat) (x7_9 : Int), v7 = .int .u64 x7_9 ∧ Aside0 (ratio_digit.j2 kq l0 l1 (l1.length : Int) x7_9 = some (r1, r2)) ∧ Aside0 (kq ≤ k) ∧ Aside0 (Pd.R off cf pre post 44 wc w0.heap.size (fun k_ => (P0_ k_ ∨ w.heap.size ≤ k_)) (.slice (some ⟨gofr11, off, none⟩) l0.length co12) l0) ∧ Aside0 (Kept w wc (fun k_ => P0_ k_)) ∧ Aside0 (Below w0.heap.size w0 wc))
  case first =>
   have H := HC10.out
   clear HC10
   have H' := ak H
   clear H
   go_wp2
   repeat (go_quiet (fail); try go_wp2)
   go_loopg [7, 8] k (fun kq v7 v8 w' => ∃ (x7_1 : Int) (x8_1 : Int), v7 = .int .u64 x7_1 ∧ v8 = .int .u64 x8_1 ∧ Aside0 (ratio_digit.l0 kq l0 l1 (l1.length : Int) x7_1 x8_1 = some (r1, r2)) ∧ Aside0 (kq ≤ k) ∧ Aside0 (Pd.R off cf pre post 44 w' w0.heap.size (fun k_ => (P0_ k_ ∨ w.heap.size ≤ k_)) (.slice (some ⟨gofr11, off, none⟩) l0.length co12) l0) ∧ Aside0 (Kept w w' (fun k_ => P0_ k_)) ∧ Aside0 (Below w0.heap.size w0 w'))
   case atStart => exact ⟨(IntKind.u64.wrap (Int.tdiv (Go.bits .or .u64 (IntKind.u64.wrap ((IntKind.u64.wrap (rd l0 (l1.length : Int))) * 4294967296)) (IntKind.u64.wrap (rd l0 (ji5)))) (IntKind.u64.wrap (rd l1 (ji5))))), (Int.tmod (Go.bits .or .u64 (IntKind.u64.wrap ((IntKind.u64.wrap (rd l0 (l1.length : Int))) * 4294967296)) (IntKind.u64.wrap (rd l0 (ji5)))) (IntKind.u64.wrap (rd l1 (ji5)))), (by first | rfl | (simp; done) | (simp only [← hji5] <;> (first | rfl | simp)) | (simp [*]; done)), (by first | rfl | (simp; done) | (simp only [← hji5] <;> (first | rfl | simp)) | (simp [*]; done)), H', ⟨Nat.le_refl _⟩, ⟨by (with_reducible repeat (first | apply Pd.R_alloc | apply Pd.R_drewN | apply Pd.R_drew)); exact HO0.out⟩, ⟨kK_⟩, ⟨bU_ HB.out⟩⟩
   case round =>
    clear H'
    (try clear c1); (try clear p1); (try clear q1); (try clear hx1); (try clear p2); (try clear c3); (try clear c3b0); (try clear c3b1); (try clear c4); (try clear c4b0); (try clear c4b1); (try clear c6); (try clear c6b0); (try clear p6); (try clear c7); (try clear c7b0); (try clear c8); (try clear c8b0); (try clear c9); (try clear c9b0); (try clear c9b1); (try clear hx185_0); (try clear hx186_0); (try clear hx187_0); (try clear hx188_0); (try clear p185); (try clear p186); (try clear p187); (try clear p188); (try clear q185); (try clear q186); (try clear q187); (try clear q188)
    obtain ⟨x7_1, x8_1, rfl, rfl, HA, HK1, HO_0, HK, HB⟩ := hrel
    cases gk with
    | zero => exact absurd HA.out (by simp [ratio_digit.l0])
    | succ k1 =>
     have H := HA.out
     clear HA
     simp only [ratio_digit.l0] at H
     have HC13 := ak H
     clear H
     go_upto_region 4 with (fail)
     repeat (go_quiet (fail); go_upto_region 4 with (fail))
     go_cut [70] (fun v70 wc => ∃ (kq : Nat) (x70_12 : Bool), v70 = .bool x70_12 ∧ Aside0 (ratio_digit.j1 kq l0 l1 (l1.length : Int) x7_1 x8_1 x70_12 = some (r1, r2)) ∧ Aside0 (kq ≤ k1) ∧ Aside0 (Pd.R off cf pre post 44 wc w0.heap.size (fun k_ => (P0_ k_ ∨ w.heap.size ≤ k_)) (.slice (some ⟨gofr11, off, none⟩) l0.length co12) l0) ∧ Aside0 (Kept w wc (fun k_ => P0_ k_)) ∧ Aside0 (Below w0.heap.size w0 wc))
     case first =>
      have H := HC13.out
      clear HC13
      by_cases c14 : (x7_1 / 4294967296) = 0
      ·rw [if_pos c14] at H
       have c14b0 := beq_iff_eq.mpr c14
       have c14b1 := bne_eq_false_iff_eq.mpr c14
       clear c14
       (first | rw [c14b0] | (simp only [i64_w, i32_w]; rw [c14b0]) | rw [c14b1] | skip)
       obtain ⟨ji15, hji15⟩ : ∃ j_ : Int, (wrap64 ((l1.length : Int) - 2)) = j_ := ⟨_, rfl⟩
       first | rw [hji15] at H | simp only [hji15] at H
       have hji15w : (IntKind.i64.wrap ((l1.length : Int) - 2)) = ji15 := (i64_w _).trans hji15
       obtain ⟨c16, H⟩ : (0 ≤ (ji15)) ∧ _ := it_ H
       have c16b0 := decide_eq_true c16
       clear c16
       obtain ⟨c17, H⟩ : ((ji15) < (l1.length : Int)) ∧ _ := it_ H
       have c17b0 := decide_eq_true c17
       clear c17
       obtain ⟨c18, H⟩ : ((ji15) < (l0.length : Int)) ∧ _ := it_ H
       have c18b0 := decide_eq_true c18
       clear c18
       have H' := ak H
       clear H
       have p189 : 0 ≤ ((ji15) : Int) := od_
       have q189 : (ji15) < (l1.length : Int) := od_
       obtain ⟨ad189, e189, hx189_0⟩ := Kd.at_int (Kd.C_kept_now HR1.out HK.out) (ji15) p189 q189
       obtain rfl : ad187 = ad189 := (by injection e189)
       replace p189 := eq_true p189
       replace q189 := eq_true q189
       have p190 : 0 ≤ ((ji15) : Int) := od_
       have q190 : (ji15) < (l0.length : Int) := od_
       obtain ⟨ad190, e190, hx190_0⟩ := Kd.at_int (Pd.R_reads' HO_0.out).2.2 (ji15) p190 q190
       obtain rfl : (⟨gofr11, off, none⟩ : Addr) = ad190 := (by injection e190)
       (first | simp only [add_plain] at hx190_0 | simp only [add_at] at hx190_0 | simp only [Addr.add, Nat.zero_add] at hx190_0 | skip)
       replace p190 := eq_true p190
       replace q190 := eq_true q190
       go_wp2
       repeat (go_quiet (fail); try go_wp2)
       go_meet
       case rel => exact ⟨_, (decide ((IntKind.u64.wrap (x7_1 * (IntKind.u64.wrap (rd l1 (ji15))))) > (Go.bits .or .u64 (IntKind.u64.wrap (x8_1 * 4294967296)) (IntKind.u64.wrap (rd l0 (ji15)))))), (by first | rfl | (simp; done) | (simp only [← hji15] <;> (first | rfl | simp)) | (simp [*]; done)), H', ⟨by have := HK1.out; first | omega | exact Nat.le_refl _⟩, ⟨by (with_reducible repeat (first | apply Pd.R_alloc | apply Pd.R_drewN | apply Pd.R_drew)); exact HO_0.out⟩, ⟨kK_⟩, ⟨bU_ HB.out⟩⟩
      ·rw [if_neg c14] at H
       have c14b0 := beq_eq_false_iff_ne.mpr c14
       have c14b1 := bne_iff_ne.mpr c14
       (first | rw [c14b0] | (simp only [i64_w, i32_w]; rw [c14b0]) | rw [c14b1] | skip)
       have H' := ak H
       clear H
       go_wp2
       repeat (go_quiet (fail); try go_wp2)
       go_meet
       case rel => exact ⟨_, (true), gb_, H', ⟨by have := HK1.out; first | omega | exact Nat.le_refl _⟩, ⟨by (with_reducible repeat (first | apply Pd.R_alloc | apply Pd.R_drewN | apply Pd.R_drew)); exact HO_0.out⟩, ⟨kK_⟩, ⟨bU_ HB.out⟩⟩
     case rest =>
      clear HC13
      (try clear c1); (try clear p1); (try clear q1); (try clear hx1); (try clear p2); (try clear c3); (try clear c3b0); (try clear c3b1); (try clear c4); (try clear c4b0); (try clear c4b1); (try clear c6); (try clear c6b0); (try clear p6); (try clear c7); (try clear c7b0); (try clear c8); (try clear c8b0); (try clear c9); (try clear c9b0); (try clear c9b1); (try clear c14); (try clear c14b0); (try clear c14b1); (try clear c16); (try clear c16b0); (try clear c17); (try clear c17b0); (try clear c18); (try clear c18b0); (try clear p18); (try clear q18); (try clear hx18); (try clear hx185_0); (try clear hx186_0); (try clear hx187_0); (try clear hx188_0); (try clear hx189_0); (try clear hx190_0); (try clear p185); (try clear p186); (try clear p187); (try clear p188); (try clear p189); (try clear p190); (try clear q185); (try clear q186); (try clear q187); (try clear q188); (try clear q189); (try clear q190)
      obtain ⟨kq, x70_12, rfl, HA, HJ12, HO_0, HK, HB⟩ := hcut
      cases kq with
      | zero => exact absurd HA.out (by simp [ratio_digit.j1])
      | succ kj12 =>
       have H := HA.out
       clear HA
       simp only [ratio_digit.j1] at H
       by_cases c19 : x70_12 = true
       ·subst c19
        rw [if_pos rfl] at H
        obtain ⟨ji20, hji20⟩ : ∃ j_ : Int, (wrap64 ((l1.length : Int) - 1)) = j_ := ⟨_, rfl⟩
        first | rw [hji20] at H | simp only [hji20] at H
        have hji20w : (IntKind.i64.wrap ((l1.length : Int) - 1)) = ji20 := (i64_w _).trans hji20
        (try (have hji5_ji20 := hji5; rw [hji20] at hji5_ji20))
        (try (have hji5_ji20w := hji5w; rw [hji20] at hji5_ji20w))
        (try clear hji5_ji20); (try clear hji5_ji20w); (try clear hji5w); (try clear hji5)
        obtain ⟨c21, H⟩ : (0 ≤ (ji20)) ∧ _ := it_ H
        have c21b0 := decide_eq_true c21
        clear c21
        obtain ⟨c22, H⟩ : ((ji20) < (l1.length : Int)) ∧ _ := it_ H
        have c22b0 := decide_eq_true c22
        clear c22
        by_cases c23 : ((IntKind.u64.wrap (x8_1 + (IntKind.u64.wrap (rd l1 (ji20))))) / 4294967296) = 0
        ·rw [if_pos c23] at H
         have c23b0 := beq_iff_eq.mpr c23
         have c23b1 := bne_eq_false_iff_eq.mpr c23
         clear c23
         have H' := ak H
         clear H
         have p191 : 0 ≤ ((ji20) : Int) := od_
         have q191 : (ji20) < (l1.length : Int) := od_
         obtain ⟨ad191, e191, hx191_0⟩ := Kd.at_int (Kd.C_kept_now HR1.out HK.out) (ji20) p191 q191
         obtain rfl : ad187 = ad191 := (by injection e191)
         replace p191 := eq_true p191
         replace q191 := eq_true q191
         go_wp2
         repeat (go_quiet (fail); try go_wp2)
         go_roundg kj12
         case measure => have := HK1.out; have := HJ12.out; omega
         case rel => exact ⟨(IntKind.u64.wrap (x7_1 - 1)), (IntKind.u64.wrap (x8_1 + (IntKind.u64.wrap (rd l1 (ji20))))), gb_, (by first | rfl | (simp; done) | (simp only [← hji20] <;> (first | rfl | simp)) | (simp [*]; done)), H', ⟨by have := HK1.out; have := HJ12.out; omega⟩, ⟨by (with_reducible repeat (first | apply Pd.R_alloc | apply Pd.R_drewN | apply Pd.R_drew)); exact HO_0.out⟩, ⟨kK_⟩, ⟨bU_ HB.out⟩⟩
        ·rw [if_neg c23] at H
         have c23b0 := beq_eq_false_iff_ne.mpr c23
         have c23b1 := bne_iff_ne.mpr c23
         have H' := ak H
         clear H
         have p191 : 0 ≤ ((ji20) : Int) := od_
         have q191 : (ji20) < (l1.length : Int) := od_
         obtain ⟨ad191, e191, hx191_0⟩ := Kd.at_int (Kd.C_kept_now HR1.out HK.out) (ji20) p191 q191
         obtain rfl : ad187 = ad191 := (by injection e191)
         replace p191 := eq_true p191
         replace q191 := eq_true q191
         go_wp2
         repeat (go_quiet (fail); try go_wp2)
         go_meet
         case rel => exact ⟨_, (IntKind.u64.wrap (x7_1 - 1)), gb_, H', ⟨by have := HK1.out; have := HJ12.out; first | omega | exact Nat.le_refl _⟩, ⟨by (with_reducible repeat (first | apply Pd.R_alloc | apply Pd.R_drewN | apply Pd.R_drew)); exact HO_0.out⟩, ⟨kK_⟩, ⟨bU_ HB.out⟩⟩
       ·replace c19 := Bool.eq_false_iff.mpr c19
        subst c19
        rw [if_neg (show ¬ (false = true) by decide)] at H
        have H' := ak H
        clear H
        go_wp2
        repeat (go_quiet (fail); try go_wp2)
        go_meet
        case rel => exact ⟨_, (x7_1), gb_, H', ⟨by have := HK1.out; have := HJ12.out; first | omega | exact Nat.le_refl _⟩, ⟨by (with_reducible repeat (first | apply Pd.R_alloc | apply Pd.R_drewN | apply Pd.R_drew)); exact HO_0.out⟩, ⟨kK_⟩, ⟨bU_ HB.out⟩⟩
  case rest =>
   clear HC10
   (try clear c1); (try clear p1); (try clear q1); (try clear hx1); (try clear c2); (try clear p2); (try clear c3); (try clear c3b0); (try clear c3b1); (try clear c4); (try clear c4b0); (try clear c4b1); (try clear c6); (try clear c6b0); (try clear p6); (try clear c7); (try clear c7b0); (try clear c8); (try clear c8b0); (try clear c9); (try clear c9b0); (try clear c9b1); (try clear c14); (try clear c14b0); (try clear c14b1); (try clear c16); (try clear c16b0); (try clear c17); (try clear c17b0); (try clear c18); (try clear c18b0); (try clear p18); (try clear q18); (try clear hx18); (try clear c19); (try clear p19); (try clear q19); (try clear hx19); (try clear c21); (try clear c21b0); (try clear c22); (try clear c22b0); (try clear c23); (try clear c23b0); (try clear c23b1); (try clear hx185_0); (try clear hx186_0); (try clear hx187_0); (try clear hx188_0); (try clear hx189_0); (try clear hx190_0); (try clear hx191_0); (try clear p185); (try clear p186); (try clear p187); (try clear p188); (try clear p189); (try clear p190); (try clear p191); (try clear q185); (try clear q186); (try clear q187); (try clear q188); (try clear q189); (try clear q190); (try clear q191)
   obtain ⟨kq, x7_9, rfl, HA, HJ9, HO_0, HK, HB⟩ := hcut
   cases kq with
   | zero => exact absurd HA.out (by simp [ratio_digit.j2])
   | succ kj9 =>
    have H := HA.out
    clear HA
    simp only [ratio_digit.j2] at H
    have H' := ak H
    clear H
    go_wp2
    repeat (go_quiet (fail); try go_wp2)
    go_loopg [9, 10, 86] kj9 (fun kq v9 v10 v86 w' => ∃ (x0_2 : List Int) (x9_2 : Int) (x10_2 : Int) (x86_2 : Int), v9 = .int .u64 x9_2 ∧ v10 = .int .u32 x10_2 ∧ v86 = .int .i64 x86_2 ∧ Aside0 (ratio_digit.l1 kq x0_2 l1 (l1.length : Int) x7_9 x9_2 x10_2 l1 (l1.length : Int) x86_2 = some (r1, r2)) ∧ Aside0 (kq ≤ kj9) ∧ Aside0 (Pd.R off cf pre post 44 w' w0.heap.size (fun k_ => (P0_ k_ ∨ w.heap.size ≤ k_)) (.slice (some ⟨gofr11, off, none⟩) l0.length co12) x0_2) ∧ Aside0 (Kept w w' (fun k_ => P0_ k_)) ∧ Aside0 (Below w0.heap.size w0 w'))
    case atStart => exact ⟨(l0), (0), (0), (0), gb_, gb_, gb_, H', ⟨Nat.le_refl _⟩, ⟨by (with_reducible repeat (first | apply Pd.R_alloc | apply Pd.R_drewN | apply Pd.R_drew)); exact HO_0.out⟩, ⟨kK_⟩, ⟨bU_ HB.out⟩⟩
    case round =>
     clear H'
     (try clear c1); (try clear p1); (try clear q1); (try clear hx1); (try clear c2); (try clear p2); (try clear c3); (try clear c3b0); (try clear c3b1); (try clear c4); (try clear c4b0); (try clear c4b1); (try clear c6); (try clear c6b0); (try clear p6); (try clear c7); (try clear c7b0); (try clear c8); (try clear c8b0); (try clear c9); (try clear c9b0); (try clear c9b1); (try clear c14); (try clear c14b0); (try clear c14b1); (try clear c16); (try clear c16b0); (try clear c17); (try clear c17b0); (try clear c18); (try clear c18b0); (try clear p18); (try clear q18); (try clear hx18); (try clear c19); (try clear p19); (try clear q19); (try clear hx19); (try clear c21); (try clear c21b0); (try clear c22); (try clear c22b0); (try clear c23); (try clear c23b0); (try clear c23b1); (try clear hx185_0); (try clear hx186_0); (try clear hx187_0); (try clear hx188_0); (try clear hx189_0); (try clear hx190_0); (try clear hx191_0); (try clear p185); (try clear p186); (try clear p187); (try clear p188); (try clear p189); (try clear p190); (try clear p191); (try clear q185); (try clear q186); (try clear q187); (try clear q188); (try clear q189); (try clear q190); (try clear q191)
     obtain ⟨x0_2, x9_2, x10_2, x86_2, rfl, rfl, rfl, HA, HK2, HO_0, HK, HB⟩ := hrel
     have hl0_2 := (Pd.R_reads' HO_0.out).1
     rw [hl0_2] at HO_0
     (try simp only [hl0_2])
     cases gk with
     | zero => exact absurd HA.out (by simp [ratio_digit.l1])
     | succ k2 =>
      have H := HA.out
      clear HA
      simp only [ratio_digit.l1] at H
      by_cases c24 : x86_2 < (l1.length : Int)
      ·rw [if_pos c24] at H
       have c24b0 := decide_eq_true c24
       clear c24
       obtain ⟨c25, H⟩ : (0 ≤ x86_2) ∧ _ := it_ H
       have c25b0 := decide_eq_true c25
       clear c25
       obtain ⟨c26, H⟩ : (x86_2 < (l1.length : Int)) ∧ _ := it_ H
       have c26b0 := decide_eq_true c26
       clear c26
       obtain ⟨c27, H⟩ : (x86_2 < (x0_2.length : Int)) ∧ _ := it_ H
       have c27b0 := decide_eq_true c27
       clear c27
       revert H
       refine bd2_ fun t194 t195 A28 H => ?_
       try dsimp only at H
       obtain ⟨y196, hy196⟩ : ∃ y_ : List Int, y_ = (x0_2.set (x86_2 : Int).toNat t194) := ⟨_, rfl⟩
       first | rw [Option.bind_some, ← hy196] at H | rw [← hy196] at H
       have Ny196 := ak hy196
       clear hy196
       have H' := ak H
       clear H
       have p192 : 0 ≤ (x86_2 : Int) := od_
       have q192 : x86_2 < (l1.length : Int) := od_
       obtain ⟨ad192, e192, hx192_0⟩ := Kd.at_int (Kd.C_kept_now HR1.out HK.out) x86_2 p192 q192
       obtain rfl : ad187 = ad192 := (by injection e192)
       replace p192 := eq_true p192
       replace q192 := eq_true q192
       have p193 : 0 ≤ (x86_2 : Int) := od_
       have q193 : x86_2 < (x0_2.length : Int) := od_
       obtain ⟨ad193, e193, hx193_0⟩ := Kd.at_int (Pd.R_reads' HO_0.out).2.2 x86_2 p193 q193
       obtain rfl : (⟨gofr11, off, none⟩ : Addr) = ad193 := (by injection e193)
       (first | simp only [add_plain] at hx193_0 | simp only [add_at] at hx193_0 | simp only [Addr.add, Nat.zero_add] at hx193_0 | skip)
       replace p193 := eq_true p193
       replace q193 := eq_true q193
       go_wp2_with (first | (go_at_call 92; (with_reducible refine (bits_Sub32.calls (rd x0_2 x86_2) ((IntKind.u64.wrap ((IntKind.u64.wrap (x7_9 * (IntKind.u64.wrap (rd l1 x86_2)))) + x9_2)) % 4294967296) x10_2 t194 t195 _ A28.out).mono ?_); rintro e w' ⟨rfl, ⟨nd, rfl⟩⟩; (try first | exact ⟨rfl, _, World.drewN_drewN _ _ _⟩ | exact ⟨rfl, _, Eq.trans (World.drewN_drewN _ _ _) (congrArg (World.drewN _) (Nat.add_assoc _ _ _))⟩); have p29 : 0 ≤ (x86_2 : Int) := od_; have q29 : (x86_2 : Int) < ((x0_2.length : Int) : Int) := od_; obtain ⟨hx29_0, hf29_0⟩ := Pd.R_celln 0 HO_0.out (x86_2 : Int) p29 q29; replace p29 := eq_true p29; replace q29 := eq_true q29; obtain ⟨hy30_, hz30_⟩ := Pd.R_celln 0 HO_0.out (x86_2 : Int) od_ od_; have HP30 := Pd.R_putg HO_0.out (x86_2 : Int) (Pd.ix_ (by first | exact od_ | omega) (by first | exact od_ | omega)) t194) | ((with_reducible refine gate_store (t := 44) (p := 112) rfl ?_); (try (rw [drewN_self wr]; generalize hq_ : World.drewN wr _ = wr; have n0_ := ak (Pd.R_at hq_ HO_0.out); have n1_ := ak (kept_at hq_ HK.out); have n2_ := ak (below_at hq_ HB.out); clear hq_ HO_0 HK HB; have HO_0 := n0_; have HK := n1_; have HB := n2_; clear n0_ n1_ n2_; (try (obtain ⟨hy30_, hz30_⟩ := Pd.R_celln 0 HO_0.out (x86_2 : Int) od_ od_)); (try (have HP30 := Pd.R_putg HO_0.out (x86_2 : Int) (Pd.ix_ (by first | exact od_ | omega) (by first | exact od_ | omega)) t194)))); refine store_event (t := 44) (p := 112) (v := ?vo_w31) (w1 := (wr.setCell ⟨gofr11, off + (x86_2 : Int).toNat, none⟩ (.int .u32 t194))) ?hg ?ho ?hn ?hr ?_; (case ho => rfl); (case hg => rfl); (case hn => rfl); (case hr => first | (go_simp; done) | (go_simp; rfl)); intro w31 hw; have hg : wr.grownBy w31 (some gofr11) := (by rw [hw]; exact HP30.2); have hp_ : Pd.R off cf pre post 44 w31 w0.heap.size (fun k_ => (P0_ k_ ∨ w.heap.size ≤ k_)) (.slice (some ⟨gofr11, off, none⟩) x0_2.length co12) y196 := (by rw [hw, Ny196.out]; exact HP30.1); clear HP30; refine nx3_ (hp_) ((by rw [hw]; exact below_set (HB.out) GBfr11.out : Below w0.heap.size w0 w31)) (Kept.of_grown (S := (fun k_ => P0_ k_)) hg kK_ (fun k_ e_ => (HO_0.out.1 k_ e_))) ?_; clear HO_0 HB HK; intro HO_0 HB HK; clear hg hw hp_))
       repeat (go_quiet (first | (go_at_call 92; (with_reducible refine (bits_Sub32.calls (rd x0_2 x86_2) ((IntKind.u64.wrap ((IntKind.u64.wrap (x7_9 * (IntKind.u64.wrap (rd l1 x86_2)))) + x9_2)) % 4294967296) x10_2 t194 t195 _ A28.out).mono ?_); rintro e w' ⟨rfl, ⟨nd, rfl⟩⟩; (try first | exact ⟨rfl, _, World.drewN_drewN _ _ _⟩ | exact ⟨rfl, _, Eq.trans (World.drewN_drewN _ _ _) (congrArg (World.drewN _) (Nat.add_assoc _ _ _))⟩); have p29 : 0 ≤ (x86_2 : Int) := od_; have q29 : (x86_2 : Int) < ((x0_2.length : Int) : Int) := od_; obtain ⟨hx29_0, hf29_0⟩ := Pd.R_celln 0 HO_0.out (x86_2 : Int) p29 q29; replace p29 := eq_true p29; replace q29 := eq_true q29; obtain ⟨hy30_, hz30_⟩ := Pd.R_celln 0 HO_0.out (x86_2 : Int) od_ od_; have HP30 := Pd.R_putg HO_0.out (x86_2 : Int) (Pd.ix_ (by first | exact od_ | omega) (by first | exact od_ | omega)) t194) | ((with_reducible refine gate_store (t := 44) (p := 112) rfl ?_); (try (rw [drewN_self wr]; generalize hq_ : World.drewN wr _ = wr; have n0_ := ak (Pd.R_at hq_ HO_0.out); have n1_ := ak (kept_at hq_ HK.out); have n2_ := ak (below_at hq_ HB.out); clear hq_ HO_0 HK HB; have HO_0 := n0_; have HK := n1_; have HB := n2_; clear n0_ n1_ n2_; (try (obtain ⟨hy30_, hz30_⟩ := Pd.R_celln 0 HO_0.out (x86_2 : Int) od_ od_)); (try (have HP30 := Pd.R_putg HO_0.out (x86_2 : Int) (Pd.ix_ (by first | exact od_ | omega) (by first | exact od_ | omega)) t194)))); refine store_event (t := 44) (p := 112) (v := ?vo_w31) (w1 := (wr.setCell ⟨gofr11, off + (x86_2 : Int).toNat, none⟩ (.int .u32 t194))) ?hg ?ho ?hn ?hr ?_; (case ho => rfl); (case hg => rfl); (case hn => rfl); (case hr => first | (go_simp; done) | (go_simp; rfl)); intro w31 hw; have hg : wr.grownBy w31 (some gofr11) := (by rw [hw]; exact HP30.2); have hp_ : Pd.R off cf pre post 44 w31 w0.heap.size (fun k_ => (P0_ k_ ∨ w.heap.size ≤ k_)) (.slice (some ⟨gofr11, off, none⟩) x0_2.length co12) y196 := (by rw [hw, Ny196.out]; exact HP30.1); clear HP30; refine nx3_ (hp_) ((by rw [hw]; exact below_set (HB.out) GBfr11.out : Below w0.heap.size w0 w31)) (Kept.of_grown (S := (fun k_ => P0_ k_)) hg kK_ (fun k_ e_ => (HO_0.out.1 k_ e_))) ?_; clear HO_0 HB HK; intro HO_0 HB HK; clear hg hw hp_)); try go_wp2_with (first | (go_at_call 92; (with_reducible refine (bits_Sub32.calls (rd x0_2 x86_2) ((IntKind.u64.wrap ((IntKind.u64.wrap (x7_9 * (IntKind.u64.wrap (rd l1 x86_2)))) + x9_2)) % 4294967296) x10_2 t194 t195 _ A28.out).mono ?_); rintro e w' ⟨rfl, ⟨nd, rfl⟩⟩; (try first | exact ⟨rfl, _, World.drewN_drewN _ _ _⟩ | exact ⟨rfl, _, Eq.trans (World.drewN_drewN _ _ _) (congrArg (World.drewN _) (Nat.add_assoc _ _ _))⟩); have p29 : 0 ≤ (x86_2 : Int) := od_; have q29 : (x86_2 : Int) < ((x0_2.length : Int) : Int) := od_; obtain ⟨hx29_0, hf29_0⟩ := Pd.R_celln 0 HO_0.out (x86_2 : Int) p29 q29; replace p29 := eq_true p29; replace q29 := eq_true q29; obtain ⟨hy30_, hz30_⟩ := Pd.R_celln 0 HO_0.out (x86_2 : Int) od_ od_; have HP30 := Pd.R_putg HO_0.out (x86_2 : Int) (Pd.ix_ (by first | exact od_ | omega) (by first | exact od_ | omega)) t194) | ((with_reducible refine gate_store (t := 44) (p := 112) rfl ?_); (try (rw [drewN_self wr]; generalize hq_ : World.drewN wr _ = wr; have n0_ := ak (Pd.R_at hq_ HO_0.out); have n1_ := ak (kept_at hq_ HK.out); have n2_ := ak (below_at hq_ HB.out); clear hq_ HO_0 HK HB; have HO_0 := n0_; have HK := n1_; have HB := n2_; clear n0_ n1_ n2_; (try (obtain ⟨hy30_, hz30_⟩ := Pd.R_celln 0 HO_0.out (x86_2 : Int) od_ od_)); (try (have HP30 := Pd.R_putg HO_0.out (x86_2 : Int) (Pd.ix_ (by first | exact od_ | omega) (by first | exact od_ | omega)) t194)))); refine store_event (t := 44) (p := 112) (v := ?vo_w31) (w1 := (wr.setCell ⟨gofr11, off + (x86_2 : Int).toNat, none⟩ (.int .u32 t194))) ?hg ?ho ?hn ?hr ?_; (case ho => rfl); (case hg => rfl); (case hn => rfl); (case hr => first | (go_simp; done) | (go_simp; rfl)); intro w31 hw; have hg : wr.grownBy w31 (some gofr11) := (by rw [hw]; exact HP30.2); have hp_ : Pd.R off cf pre post 44 w31 w0.heap.size (fun k_ => (P0_ k_ ∨ w.heap.size ≤ k_)) (.slice (some ⟨gofr11, off, none⟩) x0_2.length co12) y196 := (by rw [hw, Ny196.out]; exact HP30.1); clear HP30; refine nx3_ (hp_) ((by rw [hw]; exact below_set (HB.out) GBfr11.out : Below w0.heap.size w0 w31)) (Kept.of_grown (S := (fun k_ => P0_ k_)) hg kK_ (fun k_ e_ => (HO_0.out.1 k_ e_))) ?_; clear HO_0 HB HK; intro HO_0 HB HK; clear hg hw hp_)))
       (try simp only [← hl0_2])
       go_roundg k2
       case measure => have := HJ9.out; have := HK2.out; omega
       case rel => exact ⟨(y196), ((IntKind.u64.wrap ((IntKind.u64.wrap (x7_9 * (IntKind.u64.wrap (rd l1 x86_2)))) + x9_2)) / 4294967296), (t195), (wrap64 (x86_2 + 1)), gb_, gb_, gb_, H', ⟨by have := HJ9.out; have := HK2.out; omega⟩, ⟨by (try simp only [hl0_2]); (with_reducible repeat (first | apply Pd.R_alloc | apply Pd.R_drewN | apply Pd.R_drew)); exact HO_0.out⟩, ⟨kK_⟩, ⟨bU_ HB.out⟩⟩
      ·rw [if_neg c24] at H
       have c24b0 := decide_eq_false c24
       clear c24
       obtain ⟨c32, H⟩ : (0 ≤ (l1.length : Int)) ∧ _ := it_ H
       have c32b0 := decide_eq_true c32
       have c32b1 : decide (0 ≤ l1.length) = true := decide_eq_true (by omega)
       clear c32
       obtain ⟨c33, H⟩ : ((l1.length : Int) < (x0_2.length : Int)) ∧ _ := it_ H
       have c33b0 := decide_eq_true c33
       have c33b1 : decide (l1.length < x0_2.length) = true := decide_eq_true (Int.ofNat_lt.mp c33)
       clear c33
       revert H
       refine bd2_ fun t198 t199 A34 H => ?_
       try dsimp only at H
       obtain ⟨y200, hy200⟩ : ∃ y_ : List Int, y_ = (x0_2.set ((l1.length : Int) : Int).toNat t198) := ⟨_, rfl⟩
       first | rw [Option.bind_some, ← hy200] at H | rw [← hy200] at H
       have Ny200 := ak hy200
       clear hy200
       by_cases c36 : t199 = 0
       ·rw [if_pos c36] at H
        have c36b0 := beq_iff_eq.mpr c36
        have c36b1 := bne_eq_false_iff_eq.mpr c36
        clear c36
        simp only [Option.some.injEq, Prod.mk.injEq] at H
        obtain ⟨rfl, rfl⟩ := H
        have p197 : 0 ≤ ((l1.length : Int) : Int) := od_
        have q197 : (l1.length : Int) < (x0_2.length : Int) := od_
        obtain ⟨ad197, e197, hx197_0⟩ := Kd.at_int (Pd.R_reads' HO_0.out).2.2 (l1.length : Int) p197 q197
        obtain rfl : (⟨gofr11, off, none⟩ : Addr) = ad197 := (by injection e197)
        (first | simp only [add_plain] at hx197_0 | simp only [add_at] at hx197_0 | simp only [Addr.add, Nat.zero_add] at hx197_0 | skip)
        (try simp only [Go.IntWalk.toNatUp] at hx197_0)
        (try simp only [hl0_2] at p197)
        (try simp only [hl0_2] at q197)
        (try simp only [hl0_2] at hx197_0)
        replace p197 := eq_true p197
        replace q197 := eq_true q197
        go_wp2_with (first | (go_at_call 92; (with_reducible refine (bits_Sub32.calls (rd x0_2 (l1.length : Int)) ((x9_2) % 4294967296) x10_2 t198 t199 _ A34.out).mono ?_); rintro e w' ⟨rfl, ⟨nd, rfl⟩⟩; (try first | exact ⟨rfl, _, World.drewN_drewN _ _ _⟩ | exact ⟨rfl, _, Eq.trans (World.drewN_drewN _ _ _) (congrArg (World.drewN _) (Nat.add_assoc _ _ _))⟩); have p35 : 0 ≤ ((l1.length : Int) : Int) := od_; have q35 : ((l1.length : Int) : Int) < ((x0_2.length : Int) : Int) := od_; obtain ⟨hx35_0, hf35_0⟩ := Pd.R_celln 0 HO_0.out ((l1.length : Int) : Int) p35 q35; replace p35 := eq_true p35; replace q35 := eq_true q35; obtain ⟨hy37_, hz37_⟩ := Pd.R_celln 0 HO_0.out ((l1.length : Int) : Int) od_ od_; (try simp only [Go.IntWalk.toNatUp] at hy37_ hz37_); have HP37 := Pd.R_putg HO_0.out ((l1.length : Int) : Int) (Pd.ix_ (by first | exact od_ | omega) (by first | exact od_ | omega)) t198) | ((with_reducible refine gate_store (t := 44) (p := 127) rfl ?_); (try (rw [drewN_self wr]; generalize hq_ : World.drewN wr _ = wr; have n0_ := ak (Pd.R_at hq_ HO_0.out); have n1_ := ak (kept_at hq_ HK.out); have n2_ := ak (below_at hq_ HB.out); clear hq_ HO_0 HK HB; have HO_0 := n0_; have HK := n1_; have HB := n2_; clear n0_ n1_ n2_; (try (obtain ⟨hy37_, hz37_⟩ := Pd.R_celln 0 HO_0.out ((l1.length : Int) : Int) od_ od_)); (try (try simp only [Go.IntWalk.toNatUp] at hy37_ hz37_)); (try (have HP37 := Pd.R_putg HO_0.out ((l1.length : Int) : Int) (Pd.ix_ (by first | exact od_ | omega) (by first | exact od_ | omega)) t198)))); refine store_event (t := 44) (p := 127) (v := ?vo_w38) (w1 := (wr.setCell ⟨gofr11, off + ((l1.length : Int) : Int).toNat, none⟩ (.int .u32 t198))) ?hg ?ho ?hn ?hr ?_; (case ho => rfl); (case hg => rfl); (case hn => rfl); (case hr => first | (go_simp; done) | (go_simp; rfl)); intro w38 hw; have hg : wr.grownBy w38 (some gofr11) := (by rw [hw]; exact HP37.2); have hp_ : Pd.R off cf pre post 44 w38 w0.heap.size (fun k_ => (P0_ k_ ∨ w.heap.size ≤ k_)) (.slice (some ⟨gofr11, off, none⟩) x0_2.length co12) y200 := (by rw [hw, Ny200.out]; exact HP37.1); clear HP37; refine nx3_ (hp_) ((by rw [hw]; exact below_set (HB.out) GBfr11.out : Below w0.heap.size w0 w38)) (Kept.of_grown (S := (fun k_ => P0_ k_)) hg kK_ (fun k_ e_ => (HO_0.out.1 k_ e_))) ?_; clear HO_0 HB HK; intro HO_0 HB HK; clear hg hw hp_))
        repeat (go_quiet (first | (go_at_call 92; (with_reducible refine (bits_Sub32.calls (rd x0_2 (l1.length : Int)) ((x9_2) % 4294967296) x10_2 t198 t199 _ A34.out).mono ?_); rintro e w' ⟨rfl, ⟨nd, rfl⟩⟩; (try first | exact ⟨rfl, _, World.drewN_drewN _ _ _⟩ | exact ⟨rfl, _, Eq.trans (World.drewN_drewN _ _ _) (congrArg (World.drewN _) (Nat.add_assoc _ _ _))⟩); have p35 : 0 ≤ ((l1.length : Int) : Int) := od_; have q35 : ((l1.length : Int) : Int) < ((x0_2.length : Int) : Int) := od_; obtain ⟨hx35_0, hf35_0⟩ := Pd.R_celln 0 HO_0.out ((l1.length : Int) : Int) p35 q35; replace p35 := eq_true p35; replace q35 := eq_true q35; obtain ⟨hy37_, hz37_⟩ := Pd.R_celln 0 HO_0.out ((l1.length : Int) : Int) od_ od_; (try simp only [Go.IntWalk.toNatUp] at hy37_ hz37_); have HP37 := Pd.R_putg HO_0.out ((l1.length : Int) : Int) (Pd.ix_ (by first | exact od_ | omega) (by first | exact od_ | omega)) t198) | ((with_reducible refine gate_store (t := 44) (p := 127) rfl ?_); (try (rw [drewN_self wr]; generalize hq_ : World.drewN wr _ = wr; have n0_ := ak (Pd.R_at hq_ HO_0.out); have n1_ := ak (kept_at hq_ HK.out); have n2_ := ak (below_at hq_ HB.out); clear hq_ HO_0 HK HB; have HO_0 := n0_; have HK := n1_; have HB := n2_; clear n0_ n1_ n2_; (try (obtain ⟨hy37_, hz37_⟩ := Pd.R_celln 0 HO_0.out ((l1.length : Int) : Int) od_ od_)); (try (try simp only [Go.IntWalk.toNatUp] at hy37_ hz37_)); (try (have HP37 := Pd.R_putg HO_0.out ((l1.length : Int) : Int) (Pd.ix_ (by first | exact od_ | omega) (by first | exact od_ | omega)) t198)))); refine store_event (t := 44) (p := 127) (v := ?vo_w38) (w1 := (wr.setCell ⟨gofr11, off + ((l1.length : Int) : Int).toNat, none⟩ (.int .u32 t198))) ?hg ?ho ?hn ?hr ?_; (case ho => rfl); (case hg => rfl); (case hn => rfl); (case hr => first | (go_simp; done) | (go_simp; rfl)); intro w38 hw; have hg : wr.grownBy w38 (some gofr11) := (by rw [hw]; exact HP37.2); have hp_ : Pd.R off cf pre post 44 w38 w0.heap.size (fun k_ => (P0_ k_ ∨ w.heap.size ≤ k_)) (.slice (some ⟨gofr11, off, none⟩) x0_2.length co12) y200 := (by rw [hw, Ny200.out]; exact HP37.1); clear HP37; refine nx3_ (hp_) ((by rw [hw]; exact below_set (HB.out) GBfr11.out : Below w0.heap.size w0 w38)) (Kept.of_grown (S := (fun k_ => P0_ k_)) hg kK_ (fun k_ e_ => (HO_0.out.1 k_ e_))) ?_; clear HO_0 HB HK; intro HO_0 HB HK; clear hg hw hp_)); try go_wp2_with (first | (go_at_call 92; (with_reducible refine (bits_Sub32.calls (rd x0_2 (l1.length : Int)) ((x9_2) % 4294967296) x10_2 t198 t199 _ A34.out).mono ?_); rintro e w' ⟨rfl, ⟨nd, rfl⟩⟩; (try first | exact ⟨rfl, _, World.drewN_drewN _ _ _⟩ | exact ⟨rfl, _, Eq.trans (World.drewN_drewN _ _ _) (congrArg (World.drewN _) (Nat.add_assoc _ _ _))⟩); have p35 : 0 ≤ ((l1.length : Int) : Int) := od_; have q35 : ((l1.length : Int) : Int) < ((x0_2.length : Int) : Int) := od_; obtain ⟨hx35_0, hf35_0⟩ := Pd.R_celln 0 HO_0.out ((l1.length : Int) : Int) p35 q35; replace p35 := eq_true p35; replace q35 := eq_true q35; obtain ⟨hy37_, hz37_⟩ := Pd.R_celln 0 HO_0.out ((l1.length : Int) : Int) od_ od_; (try simp only [Go.IntWalk.toNatUp] at hy37_ hz37_); have HP37 := Pd.R_putg HO_0.out ((l1.length : Int) : Int) (Pd.ix_ (by first | exact od_ | omega) (by first | exact od_ | omega)) t198) | ((with_reducible refine gate_store (t := 44) (p := 127) rfl ?_); (try (rw [drewN_self wr]; generalize hq_ : World.drewN wr _ = wr; have n0_ := ak (Pd.R_at hq_ HO_0.out); have n1_ := ak (kept_at hq_ HK.out); have n2_ := ak (below_at hq_ HB.out); clear hq_ HO_0 HK HB; have HO_0 := n0_; have HK := n1_; have HB := n2_; clear n0_ n1_ n2_; (try (obtain ⟨hy37_, hz37_⟩ := Pd.R_celln 0 HO_0.out ((l1.length : Int) : Int) od_ od_)); (try (try simp only [Go.IntWalk.toNatUp] at hy37_ hz37_)); (try (have HP37 := Pd.R_putg HO_0.out ((l1.length : Int) : Int) (Pd.ix_ (by first | exact od_ | omega) (by first | exact od_ | omega)) t198)))); refine store_event (t := 44) (p := 127) (v := ?vo_w38) (w1 := (wr.setCell ⟨gofr11, off + ((l1.length : Int) : Int).toNat, none⟩ (.int .u32 t198))) ?hg ?ho ?hn ?hr ?_; (case ho => rfl); (case hg => rfl); (case hn => rfl); (case hr => first | (go_simp; done) | (go_simp; rfl)); intro w38 hw; have hg : wr.grownBy w38 (some gofr11) := (by rw [hw]; exact HP37.2); have hp_ : Pd.R off cf pre post 44 w38 w0.heap.size (fun k_ => (P0_ k_ ∨ w.heap.size ≤ k_)) (.slice (some ⟨gofr11, off, none⟩) x0_2.length co12) y200 := (by rw [hw, Ny200.out]; exact HP37.1); clear HP37; refine nx3_ (hp_) ((by rw [hw]; exact below_set (HB.out) GBfr11.out : Below w0.heap.size w0 w38)) (Kept.of_grown (S := (fun k_ => P0_ k_)) hg kK_ (fun k_ e_ => (HO_0.out.1 k_ e_))) ?_; clear HO_0 HB HK; intro HO_0 HB HK; clear hg hw hp_)))
        go_ret
        exact ⟨by first | rfl | (simp [errW_none, errW_some] <;> rfl) | (simp only [← hji5]; first | rfl | (simp [errW_none, errW_some] <;> rfl)) | (simp [*, errW_none, errW_some] <;> rfl), (by first | exact (by (with_reducible repeat (first | apply Pd.R_alloc | apply Pd.R_drewN | apply Pd.R_drew)); exact HO_0.out) | (simp only [hl0_2]; exact (by (with_reducible repeat (first | apply Pd.R_alloc | apply Pd.R_drewN | apply Pd.R_drew)); exact HO_0.out))), bU_ HB.out, kK_⟩
       ·rw [if_neg c36] at H
        have c36b0 := beq_eq_false_iff_ne.mpr c36
        have c36b1 := bne_iff_ne.mpr c36
        have H' := ak H
        clear H
        have p197 : 0 ≤ ((l1.length : Int) : Int) := od_
        have q197 : (l1.length : Int) < (x0_2.length : Int) := od_
        obtain ⟨ad197, e197, hx197_0⟩ := Kd.at_int (Pd.R_reads' HO_0.out).2.2 (l1.length : Int) p197 q197
        obtain rfl : (⟨gofr11, off, none⟩ : Addr) = ad197 := (by injection e197)
        (first | simp only [add_plain] at hx197_0 | simp only [add_at] at hx197_0 | simp only [Addr.add, Nat.zero_add] at hx197_0 | skip)
        (try simp only [Go.IntWalk.toNatUp] at hx197_0)
        (try simp only [hl0_2] at p197)
        (try simp only [hl0_2] at q197)
        (try simp only [hl0_2] at hx197_0)
        replace p197 := eq_true p197
        replace q197 := eq_true q197
        go_wp2_with (first | (go_at_call 92; (with_reducible refine (bits_Sub32.calls (rd x0_2 (l1.length : Int)) ((x9_2) % 4294967296) x10_2 t198 t199 _ A34.out).mono ?_); rintro e w' ⟨rfl, ⟨nd, rfl⟩⟩; (try first | exact ⟨rfl, _, World.drewN_drewN _ _ _⟩ | exact ⟨rfl, _, Eq.trans (World.drewN_drewN _ _ _) (congrArg (World.drewN _) (Nat.add_assoc _ _ _))⟩); have p35 : 0 ≤ ((l1.length : Int) : Int) := od_; have q35 : ((l1.length : Int) : Int) < ((x0_2.length : Int) : Int) := od_; obtain ⟨hx35_0, hf35_0⟩ := Pd.R_celln 0 HO_0.out ((l1.length : Int) : Int) p35 q35; replace p35 := eq_true p35; replace q35 := eq_true q35; obtain ⟨hy39_, hz39_⟩ := Pd.R_celln 0 HO_0.out ((l1.length : Int) : Int) od_ od_; (try simp only [Go.IntWalk.toNatUp] at hy39_ hz39_); have HP39 := Pd.R_putg HO_0.out ((l1.length : Int) : Int) (Pd.ix_ (by first | exact od_ | omega) (by first | exact od_ | omega)) t198) | ((with_reducible refine gate_store (t := 44) (p := 127) rfl ?_); (try (rw [drewN_self wr]; generalize hq_ : World.drewN wr _ = wr; have n0_ := ak (Pd.R_at hq_ HO_0.out); have n1_ := ak (kept_at hq_ HK.out); have n2_ := ak (below_at hq_ HB.out); clear hq_ HO_0 HK HB; have HO_0 := n0_; have HK := n1_; have HB := n2_; clear n0_ n1_ n2_; (try (obtain ⟨hy39_, hz39_⟩ := Pd.R_celln 0 HO_0.out ((l1.length : Int) : Int) od_ od_)); (try (try simp only [Go.IntWalk.toNatUp] at hy39_ hz39_)); (try (have HP39 := Pd.R_putg HO_0.out ((l1.length : Int) : Int) (Pd.ix_ (by first | exact od_ | omega) (by first | exact od_ | omega)) t198)))); refine store_event (t := 44) (p := 127) (v := ?vo_w40) (w1 := (wr.setCell ⟨gofr11, off + ((l1.length : Int) : Int).toNat, none⟩ (.int .u32 t198))) ?hg ?ho ?hn ?hr ?_; (case ho => rfl); (case hg => rfl); (case hn => rfl); (case hr => first | (go_simp; done) | (go_simp; rfl)); intro w40 hw; have hg : wr.grownBy w40 (some gofr11) := (by rw [hw]; exact HP39.2); have hp_ : Pd.R off cf pre post 44 w40 w0.heap.size (fun k_ => (P0_ k_ ∨ w.heap.size ≤ k_)) (.slice (some ⟨gofr11, off, none⟩) x0_2.length co12) y200 := (by rw [hw, Ny200.out]; exact HP39.1); clear HP39; refine nx3_ (hp_) ((by rw [hw]; exact below_set (HB.out) GBfr11.out : Below w0.heap.size w0 w40)) (Kept.of_grown (S := (fun k_ => P0_ k_)) hg kK_ (fun k_ e_ => (HO_0.out.1 k_ e_))) ?_; clear HO_0 HB HK; intro HO_0 HB HK; clear hg hw hp_))
        repeat (go_quiet (first | (go_at_call 92; (with_reducible refine (bits_Sub32.calls (rd x0_2 (l1.length : Int)) ((x9_2) % 4294967296) x10_2 t198 t199 _ A34.out).mono ?_); rintro e w' ⟨rfl, ⟨nd, rfl⟩⟩; (try first | exact ⟨rfl, _, World.drewN_drewN _ _ _⟩ | exact ⟨rfl, _, Eq.trans (World.drewN_drewN _ _ _) (congrArg (World.drewN _) (Nat.add_assoc _ _ _))⟩); have p35 : 0 ≤ ((l1.length : Int) : Int) := od_; have q35 : ((l1.length : Int) : Int) < ((x0_2.length : Int) : Int) := od_; obtain ⟨hx35_0, hf35_0⟩ := Pd.R_celln 0 HO_0.out ((l1.length : Int) : Int) p35 q35; replace p35 := eq_true p35; replace q35 := eq_true q35; obtain ⟨hy39_, hz39_⟩ := Pd.R_celln 0 HO_0.out ((l1.length : Int) : Int) od_ od_; (try simp only [Go.IntWalk.toNatUp] at hy39_ hz39_); have HP39 := Pd.R_putg HO_0.out ((l1.length : Int) : Int) (Pd.ix_ (by first | exact od_ | omega) (by first | exact od_ | omega)) t198) | ((with_reducible refine gate_store (t := 44) (p := 127) rfl ?_); (try (rw [drewN_self wr]; generalize hq_ : World.drewN wr _ = wr; have n0_ := ak (Pd.R_at hq_ HO_0.out); have n1_ := ak (kept_at hq_ HK.out); have n2_ := ak (below_at hq_ HB.out); clear hq_ HO_0 HK HB; have HO_0 := n0_; have HK := n1_; have HB := n2_; clear n0_ n1_ n2_; (try (obtain ⟨hy39_, hz39_⟩ := Pd.R_celln 0 HO_0.out ((l1.length : Int) : Int) od_ od_)); (try (try simp only [Go.IntWalk.toNatUp] at hy39_ hz39_)); (try (have HP39 := Pd.R_putg HO_0.out ((l1.length : Int) : Int) (Pd.ix_ (by first | exact od_ | omega) (by first | exact od_ | omega)) t198)))); refine store_event (t := 44) (p := 127) (v := ?vo_w40) (w1 := (wr.setCell ⟨gofr11, off + ((l1.length : Int) : Int).toNat, none⟩ (.int .u32 t198))) ?hg ?ho ?hn ?hr ?_; (case ho => rfl); (case hg => rfl); (case hn => rfl); (case hr => first | (go_simp; done) | (go_simp; rfl)); intro w40 hw; have hg : wr.grownBy w40 (some gofr11) := (by rw [hw]; exact HP39.2); have hp_ : Pd.R off cf pre post 44 w40 w0.heap.size (fun k_ => (P0_ k_ ∨ w.heap.size ≤ k_)) (.slice (some ⟨gofr11, off, none⟩) x0_2.length co12) y200 := (by rw [hw, Ny200.out]; exact HP39.1); clear HP39; refine nx3_ (hp_) ((by rw [hw]; exact below_set (HB.out) GBfr11.out : Below w0.heap.size w0 w40)) (Kept.of_grown (S := (fun k_ => P0_ k_)) hg kK_ (fun k_ e_ => (HO_0.out.1 k_ e_))) ?_; clear HO_0 HB HK; intro HO_0 HB HK; clear hg hw hp_)); try go_wp2_with (first | (go_at_call 92; (with_reducible refine (bits_Sub32.calls (rd x0_2 (l1.length : Int)) ((x9_2) % 4294967296) x10_2 t198 t199 _ A34.out).mono ?_); rintro e w' ⟨rfl, ⟨nd, rfl⟩⟩; (try first | exact ⟨rfl, _, World.drewN_drewN _ _ _⟩ | exact ⟨rfl, _, Eq.trans (World.drewN_drewN _ _ _) (congrArg (World.drewN _) (Nat.add_assoc _ _ _))⟩); have p35 : 0 ≤ ((l1.length : Int) : Int) := od_; have q35 : ((l1.length : Int) : Int) < ((x0_2.length : Int) : Int) := od_; obtain ⟨hx35_0, hf35_0⟩ := Pd.R_celln 0 HO_0.out ((l1.length : Int) : Int) p35 q35; replace p35 := eq_true p35; replace q35 := eq_true q35; obtain ⟨hy39_, hz39_⟩ := Pd.R_celln 0 HO_0.out ((l1.length : Int) : Int) od_ od_; (try simp only [Go.IntWalk.toNatUp] at hy39_ hz39_); have HP39 := Pd.R_putg HO_0.out ((l1.length : Int) : Int) (Pd.ix_ (by first | exact od_ | omega) (by first | exact od_ | omega)) t198) | ((with_reducible refine gate_store (t := 44) (p := 127) rfl ?_); (try (rw [drewN_self wr]; generalize hq_ : World.drewN wr _ = wr; have n0_ := ak (Pd.R_at hq_ HO_0.out); have n1_ := ak (kept_at hq_ HK.out); have n2_ := ak (below_at hq_ HB.out); clear hq_ HO_0 HK HB; have HO_0 := n0_; have HK := n1_; have HB := n2_; clear n0_ n1_ n2_; (try (obtain ⟨hy39_, hz39_⟩ := Pd.R_celln 0 HO_0.out ((l1.length : Int) : Int) od_ od_)); (try (try simp only [Go.IntWalk.toNatUp] at hy39_ hz39_)); (try (have HP39 := Pd.R_putg HO_0.out ((l1.length : Int) : Int) (Pd.ix_ (by first | exact od_ | omega) (by first | exact od_ | omega)) t198)))); refine store_event (t := 44) (p := 127) (v := ?vo_w40) (w1 := (wr.setCell ⟨gofr11, off + ((l1.length : Int) : Int).toNat, none⟩ (.int .u32 t198))) ?hg ?ho ?hn ?hr ?_; (case ho => rfl); (case hg => rfl); (case hn => rfl); (case hr => first | (go_simp; done) | (go_simp; rfl)); intro w40 hw; have hg : wr.grownBy w40 (some gofr11) := (by rw [hw]; exact HP39.2); have hp_ : Pd.R off cf pre post 44 w40 w0.heap.size (fun k_ => (P0_ k_ ∨ w.heap.size ≤ k_)) (.slice (some ⟨gofr11, off, none⟩) x0_2.length co12) y200 := (by rw [hw, Ny200.out]; exact HP39.1); clear HP39; refine nx3_ (hp_) ((by rw [hw]; exact below_set (HB.out) GBfr11.out : Below w0.heap.size w0 w40)) (Kept.of_grown (S := (fun k_ => P0_ k_)) hg kK_ (fun k_ e_ => (HO_0.out.1 k_ e_))) ?_; clear HO_0 HB HK; intro HO_0 HB HK; clear hg hw hp_)))
        go_loopg [14, 134] k2 (fun kq v14 v134 w' => ∃ (x0_3 : List Int) (x14_3 : Int) (x134_3 : Int), v14 = .int .u32 x14_3 ∧ v134 = .int .i64 x134_3 ∧ Aside0 (ratio_digit.l2 kq x0_3 (l1.length : Int) x7_9 x14_3 l1 (l1.length : Int) x134_3 = some (r1, r2)) ∧ Aside0 (kq ≤ k2) ∧ Aside0 (Pd.R off cf pre post 44 w' w0.heap.size (fun k_ => (P0_ k_ ∨ w.heap.size ≤ k_)) (.slice (some ⟨gofr11, off, none⟩) x0_2.length co12) x0_3) ∧ Aside0 (Kept w w' (fun k_ => P0_ k_)) ∧ Aside0 (Below w0.heap.size w0 w'))
        case atStart => exact ⟨(y200), (0), (0), gb_, gb_, H', ⟨Nat.le_refl _⟩, ⟨by (try simp only [hl0_2]); (with_reducible repeat (first | apply Pd.R_alloc | apply Pd.R_drewN | apply Pd.R_drew)); exact HO_0.out⟩, ⟨kK_⟩, ⟨bU_ HB.out⟩⟩
        case round =>
         clear H'
         (try clear c1); (try clear p1); (try clear q1); (try clear hx1); (try clear c2); (try clear p2); (try clear q2); (try clear hx2); (try clear hf2); (try clear c3); (try clear c3b0); (try clear c3b1); (try clear p3); (try clear q3); (try clear hx3); (try clear hf3); (try clear c4); (try clear c4b0); (try clear c4b1); (try clear c6); (try clear c6b0); (try clear p6); (try clear c7); (try clear c7b0); (try clear c8); (try clear c8b0); (try clear c9); (try clear c9b0); (try clear c9b1); (try clear c14); (try clear c14b0); (try clear c14b1); (try clear c16); (try clear c16b0); (try clear c17); (try clear c17b0); (try clear c18); (try clear c18b0); (try clear p18); (try clear q18); (try clear hx18); (try clear c19); (try clear p19); (try clear q19); (try clear hx19); (try clear c21); (try clear c21b0); (try clear c22); (try clear c22b0); (try clear c23); (try clear c23b0); (try clear c23b1); (try clear c24); (try clear c24b0); (try clear c25); (try clear c25b0); (try clear c26); (try clear c26b0); (try clear c27); (try clear c27b0); (try clear p29); (try clear q29); (try clear hx29); (try clear hf29); (try clear c32); (try clear c32b0); (try clear c32b1); (try clear c33); (try clear c33b0); (try clear c33b1); (try clear p35); (try clear q35); (try clear hx35); (try clear hf35); (try clear c36); (try clear c36b0); (try clear c36b1); (try clear hx185_0); (try clear hx186_0); (try clear hx187_0); (try clear hx188_0); (try clear hx189_0); (try clear hx190_0); (try clear hx191_0); (try clear hx192_0); (try clear hx193_0); (try clear hx197_0); (try clear hx29_0); (try clear hx35_0); (try clear p185); (try clear p186); (try clear p187); (try clear p188); (try clear p189); (try clear p190); (try clear p191); (try clear p192); (try clear p193); (try clear p197); (try clear q185); (try clear q186); (try clear q187); (try clear q188); (try clear q189); (try clear q190); (try clear q191); (try clear q192); (try clear q193); (try clear q197)
         obtain ⟨x0_3, x14_3, x134_3, rfl, rfl, HA, HK3, HO_0, HK, HB⟩ := hrel
         have hl0_3 := (Pd.R_reads' HO_0.out).1
         rw [hl0_3] at HO_0
         (try simp only [hl0_3])
         cases gk with
         | zero => exact absurd HA.out (by simp [ratio_digit.l2])
         | succ k3 =>
          have H := HA.out
          clear HA
          simp only [ratio_digit.l2] at H
          by_cases c41 : x134_3 < (l1.length : Int)
          ·rw [if_pos c41] at H
           have c41b0 := decide_eq_true c41
           clear c41
           obtain ⟨c42, H⟩ : (0 ≤ x134_3) ∧ _ := it_ H
           have c42b0 := decide_eq_true c42
           clear c42
           obtain ⟨c43, H⟩ : (x134_3 < (l1.length : Int)) ∧ _ := it_ H
           have c43b0 := decide_eq_true c43
           clear c43
           obtain ⟨c44, H⟩ : (x134_3 < (x0_3.length : Int)) ∧ _ := it_ H
           have c44b0 := decide_eq_true c44
           clear c44
           revert H
           refine bd2_ fun t203 t204 A45 H => ?_
           try dsimp only at H
           obtain ⟨y205, hy205⟩ : ∃ y_ : List Int, y_ = (x0_3.set (x134_3 : Int).toNat t203) := ⟨_, rfl⟩
           first | rw [Option.bind_some, ← hy205] at H | rw [← hy205] at H
           have Ny205 := ak hy205
           clear hy205
           have H' := ak H
           clear H
           have p201 : 0 ≤ (x134_3 : Int) := od_
           have q201 : x134_3 < (l1.length : Int) := od_
           obtain ⟨ad201, e201, hx201_0⟩ := Kd.at_int (Kd.C_kept_now HR1.out HK.out) x134_3 p201 q201
           obtain rfl : ad187 = ad201 := (by injection e201)
           replace p201 := eq_true p201
           replace q201 := eq_true q201
           have p202 : 0 ≤ (x134_3 : Int) := od_
           have q202 : x134_3 < (x0_3.length : Int) := od_
           obtain ⟨ad202, e202, hx202_0⟩ := Kd.at_int (Pd.R_reads' HO_0.out).2.2 x134_3 p202 q202
           obtain rfl : (⟨gofr11, off, none⟩ : Addr) = ad202 := (by injection e202)
           (first | simp only [add_plain] at hx202_0 | simp only [add_at] at hx202_0 | simp only [Addr.add, Nat.zero_add] at hx202_0 | skip)
           replace p202 := eq_true p202
           replace q202 := eq_true q202
           go_wp2_with (first | (go_at_call 84; (with_reducible refine (bits_Add32.calls (rd x0_3 x134_3) (rd l1 x134_3) x14_3 t203 t204 _ A45.out).mono ?_); rintro e w' ⟨rfl, ⟨nd, rfl⟩⟩; (try first | exact ⟨rfl, _, World.drewN_drewN _ _ _⟩ | exact ⟨rfl, _, Eq.trans (World.drewN_drewN _ _ _) (congrArg (World.drewN _) (Nat.add_assoc _ _ _))⟩); have p46 : 0 ≤ (x134_3 : Int) := od_; have q46 : (x134_3 : Int) < ((x0_3.length : Int) : Int) := od_; obtain ⟨hx46_0, hf46_0⟩ := Pd.R_celln 0 HO_0.out (x134_3 : Int) p46 q46; replace p46 := eq_true p46; replace q46 := eq_true q46; obtain ⟨hy47_, hz47_⟩ := Pd.R_celln 0 HO_0.out (x134_3 : Int) od_ od_; have HP47 := Pd.R_putg HO_0.out (x134_3 : Int) (Pd.ix_ (by first | exact od_ | omega) (by first | exact od_ | omega)) t203) | ((with_reducible refine gate_store (t := 44) (p := 151) rfl ?_); (try (rw [drewN_self wr]; generalize hq_ : World.drewN wr _ = wr; have n0_ := ak (Pd.R_at hq_ HO_0.out); have n1_ := ak (kept_at hq_ HK.out); have n2_ := ak (below_at hq_ HB.out); clear hq_ HO_0 HK HB; have HO_0 := n0_; have HK := n1_; have HB := n2_; clear n0_ n1_ n2_; (try (obtain ⟨hy47_, hz47_⟩ := Pd.R_celln 0 HO_0.out (x134_3 : Int) od_ od_)); (try (have HP47 := Pd.R_putg HO_0.out (x134_3 : Int) (Pd.ix_ (by first | exact od_ | omega) (by first | exact od_ | omega)) t203)))); refine store_event (t := 44) (p := 151) (v := ?vo_w48) (w1 := (wr.setCell ⟨gofr11, off + (x134_3 : Int).toNat, none⟩ (.int .u32 t203))) ?hg ?ho ?hn ?hr ?_; (case ho => rfl); (case hg => rfl); (case hn => rfl); (case hr => first | (go_simp; done) | (go_simp; rfl)); intro w48 hw; have hg : wr.grownBy w48 (some gofr11) := (by rw [hw]; exact HP47.2); have hp_ : Pd.R off cf pre post 44 w48 w0.heap.size (fun k_ => (P0_ k_ ∨ w.heap.size ≤ k_)) (.slice (some ⟨gofr11, off, none⟩) x0_3.length co12) y205 := (by rw [hw, Ny205.out]; exact HP47.1); clear HP47; refine nx3_ (hp_) ((by rw [hw]; exact below_set (HB.out) GBfr11.out : Below w0.heap.size w0 w48)) (Kept.of_grown (S := (fun k_ => P0_ k_)) hg kK_ (fun k_ e_ => (HO_0.out.1 k_ e_))) ?_; clear HO_0 HB HK; intro HO_0 HB HK; clear hg hw hp_))
           repeat (go_quiet (first | (go_at_call 84; (with_reducible refine (bits_Add32.calls (rd x0_3 x134_3) (rd l1 x134_3) x14_3 t203 t204 _ A45.out).mono ?_); rintro e w' ⟨rfl, ⟨nd, rfl⟩⟩; (try first | exact ⟨rfl, _, World.drewN_drewN _ _ _⟩ | exact ⟨rfl, _, Eq.trans (World.drewN_drewN _ _ _) (congrArg (World.drewN _) (Nat.add_assoc _ _ _))⟩); have p46 : 0 ≤ (x134_3 : Int) := od_; have q46 : (x134_3 : Int) < ((x0_3.length : Int) : Int) := od_; obtain ⟨hx46_0, hf46_0⟩ := Pd.R_celln 0 HO_0.out (x134_3 : Int) p46 q46; replace p46 := eq_true p46; replace q46 := eq_true q46; obtain ⟨hy47_, hz47_⟩ := Pd.R_celln 0 HO_0.out (x134_3 : Int) od_ od_; have HP47 := Pd.R_putg HO_0.out (x134_3 : Int) (Pd.ix_ (by first | exact od_ | omega) (by first | exact od_ | omega)) t203) | ((with_reducible refine gate_store (t := 44) (p := 151) rfl ?_); (try (rw [drewN_self wr]; generalize hq_ : World.drewN wr _ = wr; have n0_ := ak (Pd.R_at hq_ HO_0.out); have n1_ := ak (kept_at hq_ HK.out); have n2_ := ak (below_at hq_ HB.out); clear hq_ HO_0 HK HB; have HO_0 := n0_; have HK := n1_; have HB := n2_; clear n0_ n1_ n2_; (try (obtain ⟨hy47_, hz47_⟩ := Pd.R_celln 0 HO_0.out (x134_3 : Int) od_ od_)); (try (have HP47 := Pd.R_putg HO_0.out (x134_3 : Int) (Pd.ix_ (by first | exact od_ | omega) (by first | exact od_ | omega)) t203)))); refine store_event (t := 44) (p := 151) (v := ?vo_w48) (w1 := (wr.setCell ⟨gofr11, off + (x134_3 : Int).toNat, none⟩ (.int .u32 t203))) ?hg ?ho ?hn ?hr ?_; (case ho => rfl); (case hg => rfl); (case hn => rfl); (case hr => first | (go_simp; done) | (go_simp; rfl)); intro w48 hw; have hg : wr.grownBy w48 (some gofr11) := (by rw [hw]; exact HP47.2); have hp_ : Pd.R off cf pre post 44 w48 w0.heap.size (fun k_ => (P0_ k_ ∨ w.heap.size ≤ k_)) (.slice (some ⟨gofr11, off, none⟩) x0_3.length co12) y205 := (by rw [hw, Ny205.out]; exact HP47.1); clear HP47; refine nx3_ (hp_) ((by rw [hw]; exact below_set (HB.out) GBfr11.out : Below w0.heap.size w0 w48)) (Kept.of_grown (S := (fun k_ => P0_ k_)) hg kK_ (fun k_ e_ => (HO_0.out.1 k_ e_))) ?_; clear HO_0 HB HK; intro HO_0 HB HK; clear hg hw hp_)); try go_wp2_with (first | (go_at_call 84; (with_reducible refine (bits_Add32.calls (rd x0_3 x134_3) (rd l1 x134_3) x14_3 t203 t204 _ A45.out).mono ?_); rintro e w' ⟨rfl, ⟨nd, rfl⟩⟩; (try first | exact ⟨rfl, _, World.drewN_drewN _ _ _⟩ | exact ⟨rfl, _, Eq.trans (World.drewN_drewN _ _ _) (congrArg (World.drewN _) (Nat.add_assoc _ _ _))⟩); have p46 : 0 ≤ (x134_3 : Int) := od_; have q46 : (x134_3 : Int) < ((x0_3.length : Int) : Int) := od_; obtain ⟨hx46_0, hf46_0⟩ := Pd.R_celln 0 HO_0.out (x134_3 : Int) p46 q46; replace p46 := eq_true p46; replace q46 := eq_true q46; obtain ⟨hy47_, hz47_⟩ := Pd.R_celln 0 HO_0.out (x134_3 : Int) od_ od_; have HP47 := Pd.R_putg HO_0.out (x134_3 : Int) (Pd.ix_ (by first | exact od_ | omega) (by first | exact od_ | omega)) t203) | ((with_reducible refine gate_store (t := 44) (p := 151) rfl ?_); (try (rw [drewN_self wr]; generalize hq_ : World.drewN wr _ = wr; have n0_ := ak (Pd.R_at hq_ HO_0.out); have n1_ := ak (kept_at hq_ HK.out); have n2_ := ak (below_at hq_ HB.out); clear hq_ HO_0 HK HB; have HO_0 := n0_; have HK := n1_; have HB := n2_; clear n0_ n1_ n2_; (try (obtain ⟨hy47_, hz47_⟩ := Pd.R_celln 0 HO_0.out (x134_3 : Int) od_ od_)); (try (have HP47 := Pd.R_putg HO_0.out (x134_3 : Int) (Pd.ix_ (by first | exact od_ | omega) (by first | exact od_ | omega)) t203)))); refine store_event (t := 44) (p := 151) (v := ?vo_w48) (w1 := (wr.setCell ⟨gofr11, off + (x134_3 : Int).toNat, none⟩ (.int .u32 t203))) ?hg ?ho ?hn ?hr ?_; (case ho => rfl); (case hg => rfl); (case hn => rfl); (case hr => first | (go_simp; done) | (go_simp; rfl)); intro w48 hw; have hg : wr.grownBy w48 (some gofr11) := (by rw [hw]; exact HP47.2); have hp_ : Pd.R off cf pre post 44 w48 w0.heap.size (fun k_ => (P0_ k_ ∨ w.heap.size ≤ k_)) (.slice (some ⟨gofr11, off, none⟩) x0_3.length co12) y205 := (by rw [hw, Ny205.out]; exact HP47.1); clear HP47; refine nx3_ (hp_) ((by rw [hw]; exact below_set (HB.out) GBfr11.out : Below w0.heap.size w0 w48)) (Kept.of_grown (S := (fun k_ => P0_ k_)) hg kK_ (fun k_ e_ => (HO_0.out.1 k_ e_))) ?_; clear HO_0 HB HK; intro HO_0 HB HK; clear hg hw hp_)))
           (try simp only [← hl0_3])
           go_roundg k3
           case measure => have := HJ9.out; have := HK2.out; have := HK3.out; omega
           case rel => exact ⟨(y205), (t204), (wrap64 (x134_3 + 1)), gb_, gb_, H', ⟨by have := HJ9.out; have := HK2.out; have := HK3.out; omega⟩, ⟨by (try simp only [hl0_2]); (try simp only [hl0_3]); (with_reducible repeat (first | apply Pd.R_alloc | apply Pd.R_drewN | apply Pd.R_drew)); exact HO_0.out⟩, ⟨kK_⟩, ⟨bU_ HB.out⟩⟩
          ·rw [if_neg c41] at H
           have c41b0 := decide_eq_false c41
           clear c41
           obtain ⟨c49, H⟩ : (0 ≤ (l1.length : Int)) ∧ _ := it_ H
           have c49b0 := decide_eq_true c49
           have c49b1 : decide (0 ≤ l1.length) = true := decide_eq_true (by omega)
           clear c49
           obtain ⟨c50, H⟩ : ((l1.length : Int) < (x0_3.length : Int)) ∧ _ := it_ H
           have c50b0 := decide_eq_true c50
           have c50b1 : decide (l1.length < x0_3.length) = true := decide_eq_true (Int.ofNat_lt.mp c50)
           clear c50
           obtain ⟨y207, hy207⟩ : ∃ y_ : List Int, y_ = (x0_3.set ((l1.length : Int) : Int).toNat (((rd x0_3 (l1.length : Int)) + x14_3) % 4294967296)) := ⟨_, rfl⟩
           first | rw [Option.bind_some, ← hy207] at H | rw [← hy207] at H
           have Ny207 := ak hy207
           clear hy207
           simp only [Option.some.injEq, Prod.mk.injEq] at H
           obtain ⟨rfl, rfl⟩ := H
           have p206 : 0 ≤ ((l1.length : Int) : Int) := od_
           have q206 : (l1.length : Int) < (x0_3.length : Int) := od_
           obtain ⟨ad206, e206, hx206_0⟩ := Kd.at_int (Pd.R_reads' HO_0.out).2.2 (l1.length : Int) p206 q206
           obtain rfl : (⟨gofr11, off, none⟩ : Addr) = ad206 := (by injection e206)
           (first | simp only [add_plain] at hx206_0 | simp only [add_at] at hx206_0 | simp only [Addr.add, Nat.zero_add] at hx206_0 | skip)
           (try simp only [Go.IntWalk.toNatUp] at hx206_0)
           (try simp only [hl0_2, hl0_3] at p206)
           (try simp only [hl0_2, hl0_3] at q206)
           (try simp only [hl0_2, hl0_3] at hx206_0)
           replace p206 := eq_true p206
           replace q206 := eq_true q206
           have p51 : 0 ≤ ((l1.length : Int) : Int) := od_
           have q51 : ((l1.length : Int) : Int) < ((x0_3.length : Int) : Int) := od_
           obtain ⟨hx51_0, hf51_0⟩ := Pd.R_celln 0 HO_0.out ((l1.length : Int) : Int) p51 q51
           (try simp only [Int.toNat_natCast] at hx51_0 hf51_0)
           replace p51 := eq_true p51
           replace q51 := eq_true q51
           have HP52 := Pd.R_putg HO_0.out ((l1.length : Int) : Int) (Pd.ix_ (by first | exact od_ | omega) (by first | exact od_ | omega)) (((rd x0_3 (l1.length : Int)) + x14_3) % 4294967296)
           go_wp2_with (first | ((with_reducible refine gate_store (t := 44) (p := 159) rfl ?_); (try (rw [drewN_self wr]; generalize hq_ : World.drewN wr _ = wr; have n0_ := ak (Pd.R_at hq_ HO_0.out); have n1_ := ak (kept_at hq_ HK.out); have n2_ := ak (below_at hq_ HB.out); clear hq_ HO_0 HK HB; have HO_0 := n0_; have HK := n1_; have HB := n2_; clear n0_ n1_ n2_; (try (have HP52 := Pd.R_putg HO_0.out ((l1.length : Int) : Int) (Pd.ix_ (by first | exact od_ | omega) (by first | exact od_ | omega)) (((rd x0_3 (l1.length : Int)) + x14_3) % 4294967296))))); refine store_event (t := 44) (p := 159) (v := ?vo_w53) (w1 := (wr.setCell ⟨gofr11, off + ((l1.length : Int) : Int).toNat, none⟩ (.int .u32 (((rd x0_3 (l1.length : Int)) + x14_3) % 4294967296)))) ?hg ?ho ?hn ?hr ?_; (case ho => rfl); (case hg => rfl); (case hn => rfl); (case hr => first | (go_simp; done) | (go_simp; rfl)); intro w53 hw; have hg : wr.grownBy w53 (some gofr11) := (by rw [hw]; exact HP52.2); have hp_ : Pd.R off cf pre post 44 w53 w0.heap.size (fun k_ => (P0_ k_ ∨ w.heap.size ≤ k_)) (.slice (some ⟨gofr11, off, none⟩) x0_3.length co12) y207 := (by rw [hw, Ny207.out]; exact HP52.1); clear HP52; refine nx3_ (hp_) ((by rw [hw]; exact below_set (HB.out) GBfr11.out : Below w0.heap.size w0 w53)) (Kept.of_grown (S := (fun k_ => P0_ k_)) hg kK_ (fun k_ e_ => (HO_0.out.1 k_ e_))) ?_; clear HO_0 HB HK; intro HO_0 HB HK; clear hg hw hp_))
           repeat (go_quiet (first | ((with_reducible refine gate_store (t := 44) (p := 159) rfl ?_); (try (rw [drewN_self wr]; generalize hq_ : World.drewN wr _ = wr; have n0_ := ak (Pd.R_at hq_ HO_0.out); have n1_ := ak (kept_at hq_ HK.out); have n2_ := ak (below_at hq_ HB.out); clear hq_ HO_0 HK HB; have HO_0 := n0_; have HK := n1_; have HB := n2_; clear n0_ n1_ n2_; (try (have HP52 := Pd.R_putg HO_0.out ((l1.length : Int) : Int) (Pd.ix_ (by first | exact od_ | omega) (by first | exact od_ | omega)) (((rd x0_3 (l1.length : Int)) + x14_3) % 4294967296))))); refine store_event (t := 44) (p := 159) (v := ?vo_w53) (w1 := (wr.setCell ⟨gofr11, off + ((l1.length : Int) : Int).toNat, none⟩ (.int .u32 (((rd x0_3 (l1.length : Int)) + x14_3) % 4294967296)))) ?hg ?ho ?hn ?hr ?_; (case ho => rfl); (case hg => rfl); (case hn => rfl); (case hr => first | (go_simp; done) | (go_simp; rfl)); intro w53 hw; have hg : wr.grownBy w53 (some gofr11) := (by rw [hw]; exact HP52.2); have hp_ : Pd.R off cf pre post 44 w53 w0.heap.size (fun k_ => (P0_ k_ ∨ w.heap.size ≤ k_)) (.slice (some ⟨gofr11, off, none⟩) x0_3.length co12) y207 := (by rw [hw, Ny207.out]; exact HP52.1); clear HP52; refine nx3_ (hp_) ((by rw [hw]; exact below_set (HB.out) GBfr11.out : Below w0.heap.size w0 w53)) (Kept.of_grown (S := (fun k_ => P0_ k_)) hg kK_ (fun k_ e_ => (HO_0.out.1 k_ e_))) ?_; clear HO_0 HB HK; intro HO_0 HB HK; clear hg hw hp_)); try go_wp2_with (first | ((with_reducible refine gate_store (t := 44) (p := 159) rfl ?_); (try (rw [drewN_self wr]; generalize hq_ : World.drewN wr _ = wr; have n0_ := ak (Pd.R_at hq_ HO_0.out); have n1_ := ak (kept_at hq_ HK.out); have n2_ := ak (below_at hq_ HB.out); clear hq_ HO_0 HK HB; have HO_0 := n0_; have HK := n1_; have HB := n2_; clear n0_ n1_ n2_; (try (have HP52 := Pd.R_putg HO_0.out ((l1.length : Int) : Int) (Pd.ix_ (by first | exact od_ | omega) (by first | exact od_ | omega)) (((rd x0_3 (l1.length : Int)) + x14_3) % 4294967296))))); refine store_event (t := 44) (p := 159) (v := ?vo_w53) (w1 := (wr.setCell ⟨gofr11, off + ((l1.length : Int) : Int).toNat, none⟩ (.int .u32 (((rd x0_3 (l1.length : Int)) + x14_3) % 4294967296)))) ?hg ?ho ?hn ?hr ?_; (case ho => rfl); (case hg => rfl); (case hn => rfl); (case hr => first | (go_simp; done) | (go_simp; rfl)); intro w53 hw; have hg : wr.grownBy w53 (some gofr11) := (by rw [hw]; exact HP52.2); have hp_ : Pd.R off cf pre post 44 w53 w0.heap.size (fun k_ => (P0_ k_ ∨ w.heap.size ≤ k_)) (.slice (some ⟨gofr11, off, none⟩) x0_3.length co12) y207 := (by rw [hw, Ny207.out]; exact HP52.1); clear HP52; refine nx3_ (hp_) ((by rw [hw]; exact below_set (HB.out) GBfr11.out : Below w0.heap.size w0 w53)) (Kept.of_grown (S := (fun k_ => P0_ k_)) hg kK_ (fun k_ e_ => (HO_0.out.1 k_ e_))) ?_; clear HO_0 HB HK; intro HO_0 HB HK; clear hg hw hp_)))
           go_ret
           exact ⟨by first | rfl | (simp [errW_none, errW_some] <;> rfl) | (simp only [← hji5]; first | rfl | (simp [errW_none, errW_some] <;> rfl)) | (simp [*, errW_none, errW_some] <;> rfl), (by first | exact (by (with_reducible repeat (first | apply Pd.R_alloc | apply Pd.R_drewN | apply Pd.R_drew)); exact HO_0.out) | (simp only [hl0_2, hl0_3]; exact (by (with_reducible repeat (first | apply Pd.R_alloc | apply Pd.R_drewN | apply Pd.R_drew)); exact HO_0.out))), bU_ HB.out, kK_⟩

def ratio_digw.f (k : Nat) (l0 l1 : List Int) (j n : Int) : Option (Int × List Int) := if 0 ≤ j ∧ 0 ≤ n ∧ j + n + 1 ≤ (l0.length : Int) then (ratio_digit.f k ((l0.drop j.toNat).take (n.toNat + 1)) l1).bind fun t => some (t.1, l0.take j.toNat ++ (t.2 ++ l0.drop (j.toNat + (n.toNat + 1)))) else none
theorem ratio_digw.mono : ∀ a0 a1 j n k, LeO (ratio_digw.f k a0 a1 j n) (ratio_digw.f (k + 1) a0 a1 j n) := by
 intro a0 a1 j n k
 unfold ratio_digw.f
 exact LeO.ite (LeO.bind (ratio_digit.mono _ _ _) fun _ => LeO.refl _) (LeO.refl _)
theorem ratio_digw.dom {k : Nat} {l0 l1 : List Int} {j n : Int} {r : Int × List Int} (h : ratio_digw.f k l0 l1 j n = some r) : 0 ≤ j ∧ 0 ≤ n ∧ j + n + 1 ≤ (l0.length : Int) := by
 unfold ratio_digw.f at h
 exact (it_ h).1
theorem ratio_digw.calls (k : Nat) (P0_ : Nat → Prop) (g cu : Nat) (l0 : List Int) (A1 : Option Addr) (c1 : Nat) (l1 : List Int) (j n : Int) (N : Nat) (hN : N = n.toNat + 1) (r1 : Int) (r2 : List Int) (w0 w : World) (hB : Below w0.heap.size w0 w) (ho0 : Kd.R (Kd.int .u32) 44 w w0.heap.size P0_ (.slice (some ⟨g, 0, none⟩) l0.length cu) l0) (hr1 : ∀ W_, Kept w W_ (fun k_ => P0_ k_) → Kd.C (Kd.int .u32) W_ A1 l1.length l1) (hc1 : l1.length ≤ c1) (h : ratio_digw.f k l0 l1 j n = some (r1, r2)) :
  Calls Tryd.prog 91 #[.slice (some ⟨g, j.toNat, none⟩) N N, .slice A1 l1.length c1] w fun e w' => e = .returned (.int .u32 r1) ∧ Kd.R (Kd.int .u32) 44 w' w0.heap.size (fun k_ => (P0_ k_ ∨ w.heap.size ≤ k_)) (.slice (some ⟨g, 0, none⟩) l0.length cu) r2 ∧ Below w0.heap.size w0 w' ∧ Kept w w' (fun k_ => P0_ k_) := by
 subst hN
 unfold ratio_digw.f at h
 obtain ⟨⟨hj, hn, hd⟩, h⟩ := it_ h
 obtain ⟨⟨t1, t2⟩, ht, h⟩ := Option.bind_eq_some_iff.mp h
 simp only [Option.some.injEq, Prod.mk.injEq] at h
 obtain ⟨rfl, rfl⟩ := h
 have hx : ((l0.drop j.toNat).take (n.toNat + 1)).length = n.toNat + 1 := by rw [List.length_take, List.length_drop]; omega
 have hp : j.toNat = (l0.take j.toNat).length := by rw [List.length_take]; omega
 have he : l0.take j.toNat ++ ((l0.drop j.toNat).take (n.toNat + 1) ++ l0.drop (j.toNat + (n.toNat + 1))) = l0 := by
  rw [← List.drop_drop, List.take_append_drop, List.take_append_drop]
 have hP : Pd.R j.toNat cu (l0.take j.toNat) (l0.drop (j.toNat + (n.toNat + 1))) 44 w w0.heap.size P0_ (.slice (some ⟨g, j.toNat, none⟩) (n.toNat + 1) (n.toNat + 1)) ((l0.drop j.toNat).take (n.toNat + 1)) :=
  ⟨fun q hq => ho0.1 q hq, hp, g, n.toNat + 1, by rw [hx], by rw [hx]; exact Nat.le_refl _, by rw [he]; exact ho0⟩
 refine (ratio_digit.calls k j.toNat cu _ _ P0_ _ _ A1 c1 l1 t1 t2 w0 w hB hP hr1 hc1 ht).mono ?_
 rintro e w' ⟨rfl, hR, hb, hk⟩
 refine ⟨rfl, ?_, hb, hk⟩
 obtain ⟨_, _, g', c', hv, _, hr⟩ := hR
 injection hv with ha hl _
 injection ha with ha
 injection ha with ha
 subst ha
 have hlen : (l0.take j.toNat ++ (t2 ++ l0.drop (j.toNat + (n.toNat + 1)))).length = l0.length := by
  rw [List.length_append, List.length_append, List.length_take, List.length_drop, ← hl]; omega
 rw [hlen] at hr
 exact hr

mutual
def ratio_div.l0 : Nat → Int → Int → List Int → List Int → List Int → Int → Int → Option (List Int × List Int)
 | 0, _, _, _, _, _, _, _ => none
 | k + 1, x8, x9, x10, x11, x12, x62, x63 => if x63 < x62 then ((ratio_digw.f k x10 x11 (wrap64 ((wrap64 ((x12.length : Int) - 1)) - x63)) x8).bind fun bt241 => (if 0 ≤ (wrap64 ((wrap64 ((x12.length : Int) - 1)) - x63)) then (if (wrap64 ((wrap64 ((x12.length : Int) - 1)) - x63)) < (x12.length : Int) then (ratio_div.l0 k x8 x9 bt241.2 x11 (x12.set ((wrap64 ((wrap64 ((x12.length : Int) - 1)) - x63)) : Int).toNat bt241.1) x62 (wrap64 (x63 + 1))) else (none)) else (none))) else (if 0 ≤ x8 then (if (x8 : Int).toNat ≤ 70368744177664 then (ratio_div.l1 k x9 x10 x12 (List.replicate (x8 : Int).toNat 0) x8 0) else (none)) else (none))
def ratio_div.l1 : Nat → Int → List Int → List Int → List Int → Int → Int → Option (List Int × List Int)
 | 0, _, _, _, _, _, _ => none
 | k + 1, x9, x10, x12, x15, x90, x91 => if x91 < x90 then (if 0 ≤ (wrap64 (x91 + 1)) then (if (wrap64 (x91 + 1)) < (x10.length : Int) then (if 0 ≤ x91 then (if x91 < (x10.length : Int) then (if 0 ≤ x9 then (if x91 < (x15.length : Int) then (ratio_div.l1 k x9 x10 x12 (x15.set (x91 : Int).toNat ((shr .u64 (Go.bits .or .u64 (IntKind.u64.wrap ((IntKind.u64.wrap (rd x10 (wrap64 (x91 + 1)))) * 4294967296)) (IntKind.u64.wrap (rd x10 x91))) x9) % 4294967296)) x90 (wrap64 (x91 + 1))) else (none)) else (none)) else (none)) else (none)) else (none)) else (none)) else ((ratio_trim.f k x12).bind fun t250 => ((ratio_trim.f k x15).bind fun t253 => (some (t250, t253))))
end
def ratio_div.f (k : Nat) (l0 : List Int) (l1 : List Int) : Option (List Int × List Int) := if (l1.length : Int) = 1 then (if 0 < (l1.length : Int) then ((ratio_small.f k l0 (rd l1 0)).bind fun bt215 => ((ratio_Nat.f k (IntKind.u64.wrap (bt215.2))).bind fun t219 => (some (bt215.1, t219)))) else (none)) else ((ratio_compare.f k l0 l1).bind fun t222 => (if t222 < 0 then ((api_Nat_uint32.f l0).bind fun t223 => (some (([] : List Int), t223))) else (if 0 ≤ (wrap64 ((l1.length : Int) - 1)) then (if (wrap64 ((l1.length : Int) - 1)) < (l1.length : Int) then ((bits_LeadingZeros32.f (rd l1 (wrap64 ((l1.length : Int) - 1)))).bind fun t227 => ((ratio_shifted.f k l0 t227).bind fun t228 => ((ratio_shifted.f k l1 t227).bind fun t231 => (if 0 ≤ (l1.length : Int) then (if (l1.length : Int) ≤ (t231.length : Int) then (if 0 ≤ (wrap64 ((wrap64 ((l0.length : Int) - (l1.length : Int))) + 1)) then (if (wrap64 ((wrap64 ((l0.length : Int) - (l1.length : Int))) + 1) : Int).toNat ≤ 70368744177664 then ((some (List.replicate (wrap64 ((wrap64 ((l0.length : Int) - (l1.length : Int))) + 1) : Int).toNat 0 : List Int)).bind fun y238 => (ratio_div.l0 k (l1.length : Int) t227 t228 (t231.take ((l1.length : Int) : Int).toNat) y238 (y238.length : Int) 0)) else (none)) else (none)) else (none)) else (none))))) else (none)) else (none))))
theorem ratio_div.mono_l : ∀ k, (∀ y0 y1 y2 y3 y4 y5 y6, LeO (ratio_div.l0 k y0 y1 y2 y3 y4 y5 y6) (ratio_div.l0 (k + 1) y0 y1 y2 y3 y4 y5 y6)) ∧ (∀ y0 y1 y2 y3 y4 y5, LeO (ratio_div.l1 k y0 y1 y2 y3 y4 y5) (ratio_div.l1 (k + 1) y0 y1 y2 y3 y4 y5))
 | 0 => ⟨fun _ _ _ _ _ _ _ r h => by simp [ratio_div.l0] at h, fun _ _ _ _ _ _ r h => by simp [ratio_div.l1] at h⟩
 | k + 1 => by
  obtain ⟨ih0, ih1⟩ := ratio_div.mono_l k
  refine ⟨?_, ?_⟩
  ·intro y0 y1 y2 y3 y4 y5 y6
   unfold ratio_div.l0
   with_reducible repeat' first | apply ih0 | apply ih1 | apply ratio_Nat.mono | apply ratio_compare.mono | apply ratio_digw.mono | apply ratio_shifted.mono | apply ratio_small.mono | apply ratio_trim.mono | exact LeO.refl _ | exact LeO.none _ | refine LeO.ite ?_ ?_ | refine LeO.bind ?_ (fun _ => ?_)
  ·intro y0 y1 y2 y3 y4 y5
   unfold ratio_div.l1
   with_reducible repeat' first | apply ih0 | apply ih1 | apply ratio_Nat.mono | apply ratio_compare.mono | apply ratio_digw.mono | apply ratio_shifted.mono | apply ratio_small.mono | apply ratio_trim.mono | exact LeO.refl _ | exact LeO.none _ | refine LeO.ite ?_ ?_ | refine LeO.bind ?_ (fun _ => ?_)
theorem ratio_div.mono : ∀ a0 a1 k, LeO (ratio_div.f k a0 a1) (ratio_div.f (k + 1) a0 a1) := by
 intro a0 a1 k
 obtain ⟨ih0, ih1⟩ := ratio_div.mono_l k
 unfold ratio_div.f
 with_reducible repeat' first | apply ih0 | apply ih1 | apply ratio_Nat.mono | apply ratio_compare.mono | apply ratio_digw.mono | apply ratio_shifted.mono | apply ratio_small.mono | apply ratio_trim.mono | exact LeO.refl _ | exact LeO.none _ | refine LeO.ite ?_ ?_ | refine LeO.bind ?_ (fun _ => ?_)
def ratio_div.T8 : Bool × List (List Nat × List Nat) := (true, [([], []), ([], []), ([0, 1], [0, 1]), ([], []), ([], []), ([3, 4, 2], [3, 4]), ([], []), ([], []), ([5, 6, 7], [5, 6, 7]), ([2, 5, 0, 1, 2], [2]), ([8, 9, 0, 1, 2, 3, 4, 5, 6, 7, 8, 9], [8])])
def ratio_div.B8 : List Nat := [0, 0, 3, 0, 0, 31, 0, 0, 255, 63, 1023]
theorem ratio_div.tab8 : rtab .any (opsOf Tryd.f73 8) = ratio_div.T8 := by kernel_rfl
theorem ratio_div.bits8 : waitsOk ratio_div.T8.2 ratio_div.B8 = true := by kernel_rfl
def ratio_div.T20 : Bool × List (List Nat × List Nat) := (true, [([], []), ([], []), ([], []), ([], []), ([3], [3]), ([2, 4], [2, 4]), ([5], [5]), ([6], [6]), ([7], [7]), ([], []), ([], []), ([9, 10], [9, 10]), ([11], [11]), ([12], [12]), ([8, 13], [8, 13]), ([], []), ([14, 15], [14, 15]), ([16], [16]), ([0, 1, 0, 1, 2, 3, 4, 5, 6, 7, 8, 9, 10, 11, 12, 13, 14, 15, 16, 17], [0, 1]), ([18, 17, 0, 1, 2, 3, 4, 5, 6, 7, 8, 9, 10, 11, 12, 13, 14, 15, 16, 17], [17, 18])])
def ratio_div.B20 : List Nat := [0, 0, 0, 0, 8, 28, 60, 124, 252, 0, 0, 1536, 3584, 7680, 16380, 0, 65532, 131068, 262143, 524287]
theorem ratio_div.tab20 : rtab .any (opsOf Tryd.f73 20) = ratio_div.T20 := by kernel_rfl
theorem ratio_div.bits20 : waitsOk ratio_div.T20.2 ratio_div.B20 = true := by kernel_rfl
set_option maxHeartbeats 8000000 in
set_option maxRecDepth 100000 in
theorem ratio_div.calls (k : Nat) (A0 : Option Addr) (c0 : Nat) (l0 : List Int) (A1 : Option Addr) (c1 : Nat) (l1 : List Int) (r1 : List Int) (r2 : List Int) (w : World) (hr0 : Kd.C (Kd.int .u32) w A0 l0.length l0) (hc0 : l0.length ≤ c0) (hr1 : Kd.C (Kd.int .u32) w A1 l1.length l1) (hc1 : l1.length ≤ c1) (h : ratio_div.f k l0 l1 = some (r1, r2)) :
  Calls Tryd.prog 73 #[.slice A0 l0.length c0, .slice A1 l1.length c1] w fun e w' => ∃ v0_ v1_ : Value, e = .returned (.tuple #[v0_, v1_]) ∧ Kd.V (Kd.int .u32) 44 w' w.heap.size (fun k_ => (w.heap.size ≤ k_)) v0_ r1 ∧ Kd.V (Kd.int .u32) 44 w' w.heap.size (fun k_ => (w.heap.size ≤ k_)) v1_ r2 ∧ Below w.heap.size w w' := by
 have HR0 := ak hr0
 have HC0 := ak hc0
 clear hr0 hc0
 have HR1 := ak hr1
 have HC1 := ak hc1
 clear hr1 hc1
 have HB := ak (Below.refl w.heap.size w)
 have H := h
 clear h
 unfold ratio_div.f at H
 by_cases c3 : (l1.length : Int) = 1
 ·rw [if_pos c3] at H
  have c3b0 := beq_iff_eq.mpr c3
  have c3b1 := bne_eq_false_iff_eq.mpr c3
  clear c3
  obtain ⟨c4, H⟩ : (0 < (l1.length : Int)) ∧ _ := it_ H
  have c4b0 := decide_eq_true c4
  have c4b1 : decide (0 < l1.length) = true := decide_eq_true (by omega)
  clear c4
  revert H
  refine bd2_ fun t215 t218 A5 H => ?_
  try dsimp only at H
  revert H
  refine bd_ fun t219 A6 H => ?_
  simp only [Option.some.injEq, Prod.mk.injEq] at H
  obtain ⟨rfl, rfl⟩ := H
  have p214 : 0 ≤ (0 : Int) := (by omega)
  have q214 : 0 < (l1.length : Int) := od_
  obtain ⟨ad214, e214, hx214_0⟩ := Kd.at_int HR1.out 0 p214 q214
  cases e214
  have qi214 : (0 < l1.length) = True := eq_true (by omega)
  (try rw [show ((0 : Int)).toNat = 0 from rfl] at hx214_0)
  (try rw [Addr.add_zero'] at hx214_0)
  replace p214 := eq_true p214
  replace q214 := eq_true q214
  go_enter Tryd.func73, Tryd.ntmps73
  go_wp2_with (first | ((with_reducible refine gate_callee (f := 71) rfl ?_); refine gl_ (some 25) Tryd.func71 #[.slice A0 l0.length c0, .int .u32 (rd l1 0)] ?_; (with_reducible refine (ratio_small.calls k _ _ l0 (rd l1 0) t215 t218 _ ?side1 ?side2 A5.out).mono ?_); (case side1 => exact cU_ HR0.out); (case side2 => exact HC0.out); rintro e w7 ⟨v216, rfl, ho0, hb⟩; refine ⟨_, rfl, ?_⟩; refine nx2_ (V_lower (V_mono (ok' := fun k_ => (w.heap.size ≤ k_)) ho0 (fun k_ hk_ => (Nat.le_trans (below_size (bU_ HB.out)) hk_))) (below_size (bU_ HB.out))) (below_step (bU_ HB.out) hb) ?_; clear HB; intro HO217 HB; clear hb ho0) | ((with_reducible refine gate_callee (f := 16) rfl ?_); refine gl_ (some 31) Tryd.func16 #[.int .u64 (IntKind.u64.wrap (t218))] ?_; (with_reducible refine (ratio_Nat.calls k (IntKind.u64.wrap (t218)) t219 _ A6.out).mono ?_); rintro e w8 ⟨v220, rfl, ho0, hb⟩; refine ⟨_, rfl, ?_⟩; refine nx3_ (V_below (vU_ HO217.out) hb) (V_lower (V_mono (ok' := fun k_ => (w.heap.size ≤ k_)) ho0 (fun k_ hk_ => (Nat.le_trans (below_size (bU_ HB.out)) hk_))) (below_size (bU_ HB.out))) (below_step (bU_ HB.out) hb) ?_; clear HO217 HB; intro HO217 HO221 HB; clear hb ho0))
  go_ret2
  exact ⟨_, _, eW_, vU_ HO217.out, vU_ HO221.out, bU_ HB.out⟩
 ·rw [if_neg c3] at H
  have c3b0 := beq_eq_false_iff_ne.mpr c3
  have c3b1 := bne_iff_ne.mpr c3
  revert H
  refine bd_ fun t222 A9 H => ?_
  by_cases c10 : t222 < 0
  ·rw [if_pos c10] at H
   have c10b0 := decide_eq_true c10
   clear c10
   revert H
   refine bd_ fun t223 A11 H => ?_
   simp only [Option.some.injEq, Prod.mk.injEq] at H
   obtain ⟨rfl, rfl⟩ := H
   go_enter Tryd.func73, Tryd.ntmps73
   go_wp2_with (first | ((with_reducible refine gate_callee (f := 74) rfl ?_); refine gl_ (some 34) Tryd.func74 #[.slice A0 l0.length c0, .slice A1 l1.length c1] ?_; (with_reducible refine (ratio_compare.calls k _ _ l0 _ _ l1 t222 _ ?side1 ?side2 ?side3 ?side4 A9.out).mono ?_); (case side1 => exact cU_ HR0.out); (case side2 => exact HC0.out); (case side3 => exact cU_ HR1.out); (case side4 => exact HC1.out); rintro e w' ⟨rfl, ⟨nd, rfl⟩⟩; refine ⟨_, rfl, ?_⟩) | ((with_reducible refine gate_callee (f := 88) rfl ?_); refine gl_ (some 37) Tryd.func88 #[.slice A0 l0.length c0] ?_; (with_reducible refine (api_Nat_uint32.calls _ _ l0 t223 _ ?side1 ?side2 A11.out).mono ?_); (case side1 => exact cU_ HR0.out); (case side2 => exact HC0.out); rintro e w12 ⟨v224, rfl, ho0, hb⟩; refine ⟨_, rfl, ?_⟩; refine nx2_ (R_lower (R_newM (M := fun k_ => (w.heap.size ≤ k_)) ho0 (below_size (bU_ HB.out)) (fun k_ h_ => h_)) (below_size (bU_ HB.out))) (below_step (bU_ HB.out) hb) ?_; clear HB; intro HO225 HB; clear hb ho0))
   go_ret2
   exact ⟨_, _, eW_, Kd.V_nil _ _ _ _ _, R_V (R_mono (rU_ HO225.out) (fun _ hk => hk.1)), bU_ HB.out⟩
  ·rw [if_neg c10] at H
   have c10b0 := decide_eq_false c10
   clear c10
   obtain ⟨ji13, hji13⟩ : ∃ j_ : Int, (wrap64 ((l1.length : Int) - 1)) = j_ := ⟨_, rfl⟩
   first | rw [hji13] at H | simp only [hji13] at H
   (try rw [hji13] at A9)
   have hji13w : (IntKind.i64.wrap ((l1.length : Int) - 1)) = ji13 := (i64_w _).trans hji13
   obtain ⟨c14, H⟩ : (0 ≤ (ji13)) ∧ _ := it_ H
   have c14b0 := decide_eq_true c14
   clear c14
   obtain ⟨c15, H⟩ : ((ji13) < (l1.length : Int)) ∧ _ := it_ H
   have c15b0 := decide_eq_true c15
   clear c15
   revert H
   refine bd_ fun t227 A16 H => ?_
   revert H
   refine bd_ fun t228 A17 H => ?_
   revert H
   refine bd_ fun t231 A18 H => ?_
   obtain ⟨c19, H⟩ : (0 ≤ (l1.length : Int)) ∧ _ := it_ H
   have c19b0 := eq_true c19
   have c19b1 := decide_eq_true c19
   clear c19
   obtain ⟨c20, H⟩ : ((l1.length : Int) ≤ (t231.length : Int)) ∧ _ := it_ H
   have c20b0 := eq_true c20
   have c20b1 := decide_eq_true c20
   clear c20
   obtain ⟨y234, hy234⟩ : ∃ y_ : List Int, y_ = (t231.take ((l1.length : Int) : Int).toNat) := ⟨_, rfl⟩
   first | rw [Option.bind_some, ← hy234] at H | rw [← hy234] at H
   have Ny234 := ak hy234
   clear hy234
   obtain ⟨ji21, hji21⟩ : ∃ j_ : Int, (wrap64 ((wrap64 ((l0.length : Int) - (l1.length : Int))) + 1)) = j_ := ⟨_, rfl⟩
   first | rw [hji21] at H | simp only [hji21] at H
   (try rw [hji21] at A9)
   (try rw [hji21] at A16)
   (try rw [hji21] at A17)
   (try rw [hji21] at A18)
   have hji21w : (IntKind.i64.wrap ((wrap64 ((l0.length : Int) - (l1.length : Int))) + 1)) = ji21 := (i64_w _).trans hji21
   obtain ⟨c22, H⟩ : (0 ≤ (ji21)) ∧ _ := it_ H
   have c22b0 := eq_true c22
   have c22b1 := decide_eq_true c22
   clear c22
   obtain ⟨c23, H⟩ : ((ji21 : Int).toNat ≤ 70368744177664) ∧ _ := it_ H
   have c23b0 := eq_true c23
   have c23b1 := decide_eq_true c23
   clear c23
   obtain ⟨y238, hy238⟩ : ∃ y_ : List Int, y_ = (List.replicate (ji21 : Int).toNat 0) := ⟨_, rfl⟩
   first | rw [Option.bind_some, ← hy238] at H | rw [← hy238] at H
   have Ny238 := ak hy238
   clear hy238
   have H' := ak H
   clear H
   go_enter Tryd.func73, Tryd.ntmps73
   try go_wp2_with (first | ((with_reducible refine gate_callee (f := 74) rfl ?_); refine gl_ (some 34) Tryd.func74 #[.slice A0 l0.length c0, .slice A1 l1.length c1] ?_; (with_reducible refine (ratio_compare.calls k _ _ l0 _ _ l1 t222 _ ?side1 ?side2 ?side3 ?side4 A9.out).mono ?_); (case side1 => exact cU_ HR0.out); (case side2 => exact HC0.out); (case side3 => exact cU_ HR1.out); (case side4 => exact HC1.out); rintro e w' ⟨rfl, ⟨nd, rfl⟩⟩; refine ⟨_, rfl, ?_⟩; have p226 : 0 ≤ ((ji13) : Int) := od_; have q226 : (ji13) < (l1.length : Int) := od_; obtain ⟨ad226, e226, hx226_0⟩ := Kd.at_int HR1.out (ji13) p226 q226; cases e226; replace p226 := eq_true p226; replace q226 := eq_true q226) | ((with_reducible refine gate_callee (f := 89) rfl ?_); refine goesL_ (some 45) rfl rfl Tryd.func89 (by kernel_rfl) rfl #[.int .u32 (rd l1 (ji13))] rfl (by (try simp only [List.map_toArray, List.map_cons, List.map_nil]); first | done | (simp only [hji13]; rfl) | rfl | (simp only [List.length_drop, List.length_take]; rfl)) ?_; (with_reducible refine (bits_LeadingZeros32.calls (rd l1 (ji13)) t227 _ A16.out).mono ?_); rintro e w' ⟨rfl, ⟨nd, rfl⟩⟩; refine ⟨_, rfl, ?_⟩))
   generalize hq_ : World.drewN w _ = wq_
   have HBq_ := ak (below_at hq_ HB.out)
   clear hq_ HB
   have HB := HBq_
   clear HBq_
   refine nx1_ (below_drew1 HB.out) ?_
   clear HB
   intro HB
   refine start_ (n := 11) (S := fun w' => True) (ds := []) (bv 11 0) (by kernel_rfl) rfl rfl trivial (fun hHeld => ?_); refine with_tabW ratio_div.tab8 ratio_div.bits8 (fun HT_ HW_ => ?_)
   generalize wq_.drew = w24 at HB hHeld ⊢
   refine pq_ 0 46 11 1 HT_.out ?_
   refine pq_ 1 47 11 3 HT_.out ?_
   refine pq_ 3 49 11 11 HT_.out ?_
   refine pq_ 4 50 11 27 HT_.out ?_
   refine pq_ 6 52 11 91 HT_.out ?_
   refine pq_ 7 53 11 219 HT_.out ?_
   refine oq_ 2 48 11 223 HT_.out fun K hK => ?_
   refine goes_ Tryd.func90 (by kernel_rfl) rfl #[.slice A0 l0.length c0, .int .i64 t227] (by rfl) rfl rfl ga_ ?_
   with_reducible refine (ratio_shifted.calls k _ _ l0 t227 t228 _ ?side1 ?side2 A17.out).mono ?_
   (case side1 => exact cU_ (C_below HR0.out HB.out))
   (case side2 => exact HC0.out)
   rintro e w25 ⟨v229, rfl, ho0, hb⟩
   refine ⟨_, rfl, ?_⟩
   refine nx2_ (R_lower (R_newM (M := fun k_ => (w.heap.size ≤ k_)) ho0 (below_size (bU_ HB.out)) (fun k_ h_ => h_)) (below_size (bU_ HB.out))) (below_step (bU_ HB.out) hb) ?_
   clear HB
   intro HO230 HB
   (try clear hb)
   (try clear hb2)
   (try clear hk)
   (try clear hi)
   (try clear ho0)
   refine hK.out _ _ trivial (fun hHeld => ?_)
   clear hK K
   refine norm_ (a' := ?_) ?_ ?_
   rotate_left
   ·show Act.put _ (some 48) _ = _
    simp only [Act.put, s1_, s2_, s3_, i64_w, i32_w]
    rfl
   refine oq_ 5 51 11 255 HT_.out fun K hK => ?_
   refine goes_ Tryd.func90 (by kernel_rfl) rfl #[.slice (some ad226) l1.length c1, .int .i64 t227] (by rfl) rfl rfl ga_ ?_
   with_reducible refine (ratio_shifted.calls k _ _ l1 t227 t231 _ ?side1 ?side2 A18.out).mono ?_
   (case side1 => exact cU_ (C_below HR1.out HB.out))
   (case side2 => exact HC1.out)
   rintro e w26 ⟨v232, rfl, ho0, hb⟩
   refine ⟨_, rfl, ?_⟩
   refine nx3_ (R_elder' (rU_ HO230.out) (R_base ho0) hb) (R_lower (R_new' (R_newM (M := fun k_ => (w.heap.size ≤ k_)) ho0 (below_size (bU_ HB.out)) (fun k_ h_ => h_)) (R_lt (rU_ HO230.out))) (below_size (bU_ HB.out))) (below_step (bU_ HB.out) hb) ?_
   clear HO230 HB
   intro HO230 HO233 HB
   (try clear hb)
   (try clear hb2)
   (try clear hk)
   (try clear hi)
   (try clear ho0)
   obtain ⟨Ao28, co28, eo28⟩ := R_slice HO233.out
   (first | subst eo28 | (injection eo28 with f1_ f2_ f3_; have f4_ := f1_.symm; have f5_ := f3_.symm; clear f1_ f2_ f3_; subst f4_; subst f5_))
   have q27 : ((l1.length : Int) : Int) ≤ ((t231.length : Int) : Int) := od_
   obtain ⟨i027, hi027, _, hsz27, _⟩ := info_parts info44
   have hroom27 : t231.length ≤ co28 := (R_reads' HO233.out).2.1
   have hC27 : Kd.C (Kd.int .u32) _ Ao28 t231.length t231 := (R_reads' HO233.out).2.2
   have hcut27 := cutc_to (P := Tryd.prog) 23 44 .i64 Tryd.underlying23 hi027 Ao28 t231.length co28 (l1.length : Int) od_ q27 hroom27
   have hr27 := Kd.C_take (m := ((l1.length : Int) : Int).toNat) hC27 (by omega)
   have hy27 : y234.length = ((l1.length : Int) : Int).toNat := (by rw [Ny234.out, List.length_take]; omega)
   rw [← Ny234.out] at hr27
   rw [← hy27] at hcut27
   have HR237 := ak hr27
   have HC237 := ak (Nat.le_refl y234.length)
   clear hr27 hC27 hroom27 hi027 hsz27
   have KY27 := ak hy27
   clear hy27
   have KL27 := ak (show ((l1.length : Int) : Int).toNat ≤ t231.length from by omega)
   replace q27 := eq_true q27
   refine hK.out _ _ trivial (fun hHeld => ?_)
   clear hK K
   refine norm_ (a' := ?_) ?_ ?_
   rotate_left
   ·show Act.put _ (some 51) _ = _
    simp only [Act.put, s1_, s2_, s3_, i64_w, i32_w]
    rfl
   refine pq_ 8 54 11 511 HT_.out ?_
   refine pq_ 9 10 11 1023 HT_.out ?_
   refine pq_ 10 11 11 2047 HT_.out ?_
   refine done_ (done_of HT_.out (by kernel_rfl)) ?_
   try go_wp2_with (first | ((with_reducible refine gate_dst (N := 60) rfl ?_); refine R_make (Kd.int .u32) _ 44 rfl (N := 60) rfl 23 _ _ rfl ji21 ?hx ?hy Tryd.underlying23 (.int .u32 0) 4 info44 rfl (by decide) (by omega) 0 (ok := fun _ => True) (okp := fun _ => True) rfl (fun _ hk => hk) trivial od_ (Nat.le_trans (Nat.mul_le_mul_right _ (od_ : ji21.toNat ≤ 70368744177664)) (by omega)) (Below.refl _ _) (Nat.le_refl _) ?_; (case hx => first | rfl | (simp only [hji13, hji21]; rfl)); (case hy => first | rfl | (simp only [hji13, hji21]; rfl)); intro v239 w29 ho30 hb hg_ hnew_; clear hg_ hnew_; (first | rw [← Ny238.out] at ho30 | (simp only [Int.reduceToNat] at ho30; rw [← Ny238.out] at ho30)); refine nx5_ (R_elder' (rU_ HO230.out) (R_base ho30) hb) (R_elder' (rU_ HO233.out) (R_base ho30) hb) (R_lower (R_new' (R_new' (R_newM (M := fun k_ => (w.heap.size ≤ k_)) ho30 (below_size (bU_ HB.out)) (fun k_ h_ => h_)) (R_lt (rU_ HO230.out))) (R_lt (rU_ HO233.out))) (below_size (bU_ HB.out))) (C_below (by repeat (first | (with_reducible exact HR237.out) | (with_reducible refine Kd.C_alloc ?_ _) | (with_reducible refine Kd.C_drewN ?_ _) | (with_reducible refine Kd.C_drew ?_) | exact HR237.out)) hb) (below_step (bU_ HB.out) hb) ?_; clear HO230 HO233 HR237 HB; intro HO230 HO233 HO240 HR237 HB; clear hb ho30; obtain ⟨Ao31, co31, eo31⟩ := R_slice HO240.out; subst eo31))
   go_loopg [63] k (fun kq v63 w' => ∃ (x10_1 : List Int) (x12_1 : List Int) (x63_1 : Int), v63 = .int .i64 x63_1 ∧ Aside0 (ratio_div.l0 kq (l1.length : Int) t227 x10_1 y234 x12_1 (y238.length : Int) x63_1 = some (r1, r2)) ∧ Aside0 (kq ≤ k) ∧ Aside0 (Kd.R (Kd.int .u32) 44 w' w.heap.size (fun k_ => (w.heap.size ≤ k_) ∧ some k_ ≠ ((.slice Ao31 y238.length co31) : Value).ownBlock) v229 x10_1) ∧ Aside0 (Kd.R (Kd.int .u32) 44 w' w.heap.size (fun k_ => (w.heap.size ≤ k_) ∧ some k_ ≠ (v229 : Value).ownBlock) (.slice Ao31 y238.length co31) x12_1) ∧ Aside0 (Kd.R (Kd.int .u32) 44 w' w.heap.size (fun k_ => ((w.heap.size ≤ k_) ∧ some k_ ≠ (v229 : Value).ownBlock) ∧ some k_ ≠ (.slice Ao31 y238.length co31 : Value).ownBlock) (.slice Ao28 t231.length co28) t231) ∧ Aside0 (Below w.heap.size w w'))
   case atStart => exact ⟨(t228), (y238), (0), gb_, H', ⟨Nat.le_refl _⟩, ⟨R_mono (rU_ HO230.out) (fun _ hk => ⟨hk.1.1.1, hk.2⟩)⟩, ⟨R_mono (rU_ HO240.out) (fun _ hk => ⟨hk.1.1.1, hk.1.2⟩)⟩, ⟨R_mono (rU_ HO233.out) (fun _ hk => ⟨⟨hk.1.1.1, hk.1.2⟩, hk.2⟩)⟩, ⟨bU_ HB.out⟩⟩
   case round =>
    clear H'
    (try clear c1); (try clear c2); (try clear p2); (try clear q2); (try clear hx2); (try clear qi2); (try clear c3); (try clear c3b0); (try clear c3b1); (try clear c4); (try clear c4b0); (try clear c4b1); (try clear p6); (try clear c7); (try clear c8); (try clear c9); (try clear c10); (try clear c10b0); (try clear c14); (try clear c14b0); (try clear c15); (try clear c15b0); (try clear c16); (try clear c19); (try clear c19b0); (try clear c19b1); (try clear c20); (try clear c20b0); (try clear c20b1); (try clear p21); (try clear q21); (try clear hx21); (try clear qi21); (try clear c22); (try clear c22b0); (try clear c22b1); (try clear p22); (try clear q22); (try clear hx22); (try clear c23); (try clear c23b0); (try clear c23b1); (try clear q27); (try clear hx214_0); (try clear hx226_0); (try clear p214); (try clear p226); (try clear q214); (try clear q226)
    obtain ⟨x10_1, x12_1, x63_1, rfl, HA, HK1, HO_10, HO_12, HV, HB⟩ := hrel
    have hl12_1 := (R_reads' HO_12.out).1
    rw [hl12_1] at HO_12
    (try simp only [hl12_1])
    (try simp only [hl12_1] at HO_10)
    (try simp only [hl12_1] at HV)
    cases gk with
    | zero => exact absurd HA.out (by simp [ratio_div.l0])
    | succ k1 =>
     have H := HA.out
     clear HA
     simp only [ratio_div.l0] at H
     by_cases c32 : x63_1 < (y238.length : Int)
     ·rw [if_pos c32] at H
      have c32b0 := decide_eq_true c32
      (try (have c32b0r0 := c32b0; simp only [hl12_1] at c32b0r0))
      clear c32
      revert H
      refine bd2_ fun t241 t242 A33 H => ?_
      try dsimp only at H
      obtain ⟨ji34, hji34⟩ : ∃ j_ : Int, (wrap64 ((wrap64 ((x12_1.length : Int) - 1)) - x63_1)) = j_ := ⟨_, rfl⟩
      first | rw [hji34] at H | simp only [hji34] at H
      (try rw [hji34] at A33)
      have hji34w : (IntKind.i64.wrap ((wrap64 ((x12_1.length : Int) - 1)) - x63_1)) = ji34 := (i64_w _).trans hji34
      obtain ⟨c35, H⟩ : (0 ≤ (ji34)) ∧ _ := it_ H
      have c35b0 := decide_eq_true c35
      clear c35
      obtain ⟨c36, H⟩ : ((ji34) < (x12_1.length : Int)) ∧ _ := it_ H
      have c36b0 := decide_eq_true c36
      clear c36
      obtain ⟨y243, hy243⟩ : ∃ y_ : List Int, y_ = (x12_1.set ((ji34) : Int).toNat t241) := ⟨_, rfl⟩
      first | rw [Option.bind_some, ← hy243] at H | rw [← hy243] at H
      have Ny243 := ak hy243
      clear hy243
      have H' := ak H
      clear H
      obtain ⟨Ao38, co38, eo38⟩ := R_slice HO_10.out
      subst eo38
      have HD := ratio_digw.dom A33.out
      obtain ⟨gu, cu, eu, _, _, _⟩ := Kd.R_form HO_10.out (by omega)
      injection eu with eu1_ _ eu2_
      subst eu1_
      subst eu2_
      have hmx := Kd.C_max (R_reads' HO_10.out).2.2
      obtain ⟨jn, hjn⟩ : ∃ jn : Int, jn = ji34 + (l1.length : Int) := ⟨_, rfl⟩
      obtain ⟨jm, hjm⟩ : ∃ jm : Int, jm = jn + 1 := ⟨_, rfl⟩
      have hjnw : IntKind.i64.wrap (ji34 + (l1.length : Int)) = jn := by rw [i64_w, hjn]; unfold wrap64; omega
      have hjmw : IntKind.i64.wrap (jn + 1) = jm := by rw [i64_w, hjm]; unfold wrap64; omega
      obtain ⟨i038, hi038, _, hsz38, _⟩ := info_parts info44
      have hcutw := cutw_to (P := Tryd.prog) 23 44 Tryd.underlying23 hi038 hsz38 gu x10_1.length co38 ji34 jm (l1.length + 1) HD.1 (by omega) (by omega) (by omega) (R_reads' HO_10.out).2.1
      clear hjn hjm hmx HD hi038 hsz38
      go_wp2_with (first | (go_at_call 91; (with_reducible refine (ratio_digw.calls k1 (fun k_ => some k_ = (.slice (some ⟨gu, 0, none⟩) x10_1.length co38 : Value).ownBlock) gu co38 x10_1 _ _ y234 ji34 (l1.length : Int) (l1.length + 1) (by rw [Int.toNat_natCast]) t241 t242 w _ ?side1 ?side2 ?side3 ?side4 A33.out).mono ?_); (case side1 => repeat (first | (with_reducible first | exact HB.out | apply below_alloc | apply pw_below_drewN | apply below_drew1) | exact HB.out)); (case side2 => exact R_tight rfl HO_10.out); (case side3 => exact fun W_ hkW_ => by rw [Ny234.out]; exact Kd.C_take (R_reads' (Kd.R_kept HV.out hkW_ (fun k_ hk_ e_ => hk_.1.2 e_))).2.2 KL27.out); (case side4 => exact HC237.out); rintro e w39 ⟨rfl, hy0, hb, hkp⟩; refine nx4_ (Kd.R_reok rfl hy0 (fun k_ e_ => HO_10.out.1 k_ e_)) (R_mono (ok' := fun k_ => (w.heap.size ≤ k_) ∧ some k_ ≠ (.slice (some ⟨gu, 0, none⟩) x10_1.length co38 : Value).ownBlock) (Kd.R_keptB (HO_12.out) hkp (fun k_ hk_ hs_ => (hk_.2) hs_)) (fun k_ hk_ => ⟨hk_.1.1, hk_.1.2⟩)) (R_mono (ok' := fun k_ => ((w.heap.size ≤ k_) ∧ some k_ ≠ (.slice (some ⟨gu, 0, none⟩) x10_1.length co38 : Value).ownBlock) ∧ some k_ ≠ (.slice Ao31 x12_1.length co31 : Value).ownBlock) (Kd.R_keptB HV.out hkp (fun k_ hk_ hs_ => hk_.1.2 hs_)) (fun k_ hk_ => hk_.1)) (hb) ?_; clear HO_10 HO_12 HV HB; intro HO_10 HO_12 HV HB; clear hb hkp hy0; have p37 : 0 ≤ ((ji34) : Int) := od_; have q37 : ((ji34) : Int) < ((x12_1.length : Int) : Int) := od_; obtain ⟨go37, co37, eo37, gb37, gl37, cl37, HG37⟩ := Kd.R_form HO_12.out (by omega); (first | cases eo37 | (injection eo37 with ea_ en_ ec_; (first | subst ea_ | (injection ea_ with ea_; subst ea_)); subst ec_; clear en_)); have GB37 := ak gb37; have GG37 := ak HG37; clear gb37 gl37 HG37; obtain ⟨hx37_0, hf37_0⟩ := Kd.R_celln 0 HO_12.out ((ji34) : Int) p37 q37; replace p37 := eq_true p37; replace q37 := eq_true q37; obtain ⟨hy40_, hz40_⟩ := Kd.R_celln 0 HO_12.out ((ji34) : Int) od_ od_; have HP40 := Kd.R_putg HO_12.out ((ji34) : Int) t241) | ((with_reducible refine gate_store (t := 44) (p := 86) rfl ?_); refine store_event (t := 44) (p := 86) (v := ?vo_w41) (w1 := (w39.setCell ⟨go37, ((ji34) : Int).toNat, none⟩ (.int .u32 t241))) ?hg ?ho ?hn ?hr ?_; (case ho => rfl); (case hg => rfl); (case hn => rfl); (case hr => first | (go_simp; done) | (go_simp; rfl)); intro w41 hw; have hg : w39.grownBy w41 (some go37) := (by rw [hw]; exact HP40.2); have hp_ : Kd.R (Kd.int .u32) 44 w41 w.heap.size (fun k_ => (w.heap.size ≤ k_) ∧ some k_ ≠ (.slice (some ⟨gu, 0, none⟩) x10_1.length co38 : Value).ownBlock) (.slice (some ⟨go37, 0, none⟩) x12_1.length co31) y243 := (by rw [hw, Ny243.out]; exact HP40.1); clear HP40; refine nx4_ (Kd.R_after (v := (.slice (some ⟨go37, 0, none⟩) x12_1.length co31)) (v1 := (.slice (some ⟨go37, 0, none⟩) x12_1.length co31)) (ok := (fun k_ => (w.heap.size ≤ k_))) (rU_ HO_10.out) hg (.inl rfl)) (hp_) (Kd.R_after (v := (.slice (some ⟨go37, 0, none⟩) x12_1.length co31)) (v1 := (.slice (some ⟨go37, 0, none⟩) x12_1.length co31)) (ok := (fun k_ => (w.heap.size ≤ k_) ∧ some k_ ≠ (.slice (some ⟨gu, 0, none⟩) x10_1.length co38 : Value).ownBlock)) (rU_ HV.out) hg (.inl rfl)) ((by rw [hw]; exact below_set (HB.out) GB37.out : Below w.heap.size w w41)) ?_; clear HO_10 HO_12 HV HB; intro HO_10 HO_12 HV HB; clear hg hw hp_))
      (try simp only [← hl12_1])
      go_roundg k1
      case measure => have := HK1.out; omega
      case rel => exact ⟨(t242), (y243), (wrap64 (x63_1 + 1)), gb_, H', ⟨by have := HK1.out; omega⟩, ⟨by (try simp only [hl12_1]); (with_reducible repeat (first | apply Kd.R_alloc | apply Kd.R_drewN | apply R_drew)); exact HO_10.out⟩, ⟨by (try simp only [hl12_1]); (with_reducible repeat (first | apply Kd.R_alloc | apply Kd.R_drewN | apply R_drew)); exact HO_12.out⟩, ⟨by (try simp only [hl12_1]); (with_reducible repeat (first | apply Kd.R_alloc | apply Kd.R_drewN | apply R_drew)); exact HV.out⟩, ⟨bU_ HB.out⟩⟩
     ·rw [if_neg c32] at H
      have c32b0 := decide_eq_false c32
      (try (have c32b0r0 := c32b0; simp only [hl12_1] at c32b0r0))
      clear c32
      obtain ⟨c42, H⟩ : (0 ≤ (l1.length : Int)) ∧ _ := it_ H
      have c42b0 := eq_true c42
      have c42b1 := decide_eq_true c42
      clear c42
      obtain ⟨c43, H⟩ : (((l1.length : Int) : Int).toNat ≤ 70368744177664) ∧ _ := it_ H
      have c43b0 := eq_true c43
      have c43b1 := decide_eq_true c43
      clear c43
      obtain ⟨y244, hy244⟩ : ∃ y_ : List Int, y_ = (List.replicate ((l1.length : Int) : Int).toNat 0) := ⟨_, rfl⟩
      first | rw [Option.bind_some, ← hy244] at H | rw [← hy244] at H
      have Ny244 := ak hy244
      clear hy244
      have H' := ak H
      clear H
      go_wp2_with (first | ((with_reducible refine gate_dst (N := 89) rfl ?_); refine R_make (Kd.int .u32) _ 44 rfl (N := 89) rfl 23 _ _ rfl (l1.length : Int) ?hx ?hy Tryd.underlying23 (.int .u32 0) 4 info44 rfl (by decide) (by omega) 0 (ok := fun _ => True) (okp := fun _ => True) rfl (fun _ hk => hk) trivial od_ (Nat.le_trans (Nat.mul_le_mul_right _ (od_ : (l1.length : Int).toNat ≤ 70368744177664)) (by omega)) (Below.refl _ _) (Nat.le_refl _) ?_; (case hx => first | rfl | (simp only [hji13, hji21]; rfl)); (case hy => first | rfl | (simp only [hji13, hji21]; rfl)); intro v245 w44 ho45 hb hg_ hnew_; clear hg_ hnew_; (first | rw [← Ny244.out] at ho45 | (simp only [Int.reduceToNat] at ho45; rw [← Ny244.out] at ho45)); refine nx4_ (R_elder' (rU_ HO_10.out) (R_base ho45) hb) (R_elder' (rU_ HO_12.out) (R_base ho45) hb) (R_lower (R_new' (R_new' (R_newM (M := fun k_ => (w.heap.size ≤ k_)) ho45 (below_size (bU_ HB.out)) (fun k_ h_ => h_)) (R_lt (rU_ HO_10.out))) (R_lt (rU_ HO_12.out))) (below_size (bU_ HB.out))) (below_step (bU_ HB.out) hb) ?_; clear HO_10 HO_12 HB; intro HO_10 HO_12 HO246 HB; clear hb ho45))
      go_loopg [91] k1 (fun kq v91 w' => ∃ (x15_2 : List Int) (x91_2 : Int), v91 = .int .i64 x91_2 ∧ Aside0 (ratio_div.l1 kq t227 x10_1 x12_1 x15_2 (l1.length : Int) x91_2 = some (r1, r2)) ∧ Aside0 (kq ≤ k1) ∧ Aside0 (Kd.R (Kd.int .u32) 44 w' w.heap.size (fun k_ => (w.heap.size ≤ k_) ∧ some k_ ≠ ((.slice Ao31 x12_1.length co31) : Value).ownBlock ∧ some k_ ≠ (v245 : Value).ownBlock) v229 x10_1) ∧ Aside0 (Kd.R (Kd.int .u32) 44 w' w.heap.size (fun k_ => (w.heap.size ≤ k_) ∧ some k_ ≠ (v229 : Value).ownBlock ∧ some k_ ≠ (v245 : Value).ownBlock) (.slice Ao31 x12_1.length co31) x12_1) ∧ Aside0 (Kd.R (Kd.int .u32) 44 w' w.heap.size (fun k_ => (w.heap.size ≤ k_) ∧ some k_ ≠ (v229 : Value).ownBlock ∧ some k_ ≠ ((.slice Ao31 x12_1.length co31) : Value).ownBlock) v245 x15_2) ∧ Aside0 (Below w.heap.size w w'))
      case atStart => exact ⟨(y244), (0), gb_, H', ⟨Nat.le_refl _⟩, ⟨by (try simp only [hl12_1]); (with_reducible repeat (first | apply Kd.R_alloc | apply Kd.R_drewN | apply R_drew)); exact R_mono HO_10.out (fun _ hk => ⟨hk.1.1, ⟨hk.1.2, hk.2⟩⟩)⟩, ⟨by (try simp only [hl12_1]); (with_reducible repeat (first | apply Kd.R_alloc | apply Kd.R_drewN | apply R_drew)); exact R_mono HO_12.out (fun _ hk => ⟨hk.1.1, ⟨hk.1.2, hk.2⟩⟩)⟩, ⟨by (try simp only [hl12_1]); (with_reducible repeat (first | apply Kd.R_alloc | apply Kd.R_drewN | apply R_drew)); exact R_mono HO246.out (fun _ hk => ⟨hk.1.1.1, ⟨hk.1.2, hk.2⟩⟩)⟩, ⟨bU_ HB.out⟩⟩
      case round =>
       clear H'
       (try clear c1); (try clear c2); (try clear p2); (try clear q2); (try clear hx2); (try clear qi2); (try clear c3); (try clear c3b0); (try clear c3b1); (try clear p3); (try clear q3); (try clear hx3); (try clear hf3); (try clear c4); (try clear c4b0); (try clear c4b1); (try clear p6); (try clear c7); (try clear c8); (try clear c9); (try clear c10); (try clear c10b0); (try clear c14); (try clear c14b0); (try clear c15); (try clear c15b0); (try clear c16); (try clear c19); (try clear c19b0); (try clear c19b1); (try clear c20); (try clear c20b0); (try clear c20b1); (try clear p21); (try clear q21); (try clear hx21); (try clear qi21); (try clear c22); (try clear c22b0); (try clear c22b1); (try clear p22); (try clear q22); (try clear hx22); (try clear c23); (try clear c23b0); (try clear c23b1); (try clear q27); (try clear c32); (try clear c32b0); (try clear c35); (try clear c35b0); (try clear c36); (try clear c36b0); (try clear p37); (try clear q37); (try clear hx37); (try clear hf37); (try clear c42); (try clear c42b0); (try clear c42b1); (try clear c43); (try clear c43b0); (try clear c43b1); (try clear hx214_0); (try clear hx226_0); (try clear hx37_0); (try clear p214); (try clear p226); (try clear q214); (try clear q226)
       obtain ⟨x15_2, x91_2, rfl, HA, HK2, HO_10, HO_12, HO_15, HB⟩ := hrel
       cases gk with
       | zero => exact absurd HA.out (by simp [ratio_div.l1])
       | succ k2 =>
        have H := HA.out
        clear HA
        simp only [ratio_div.l1] at H
        by_cases c46 : x91_2 < (l1.length : Int)
        ·rw [if_pos c46] at H
         have c46b0 := decide_eq_true c46
         clear c46
         obtain ⟨ji47, hji47⟩ : ∃ j_ : Int, (wrap64 (x91_2 + 1)) = j_ := ⟨_, rfl⟩
         first | rw [hji47] at H | simp only [hji47] at H
         have hji47w : (IntKind.i64.wrap (x91_2 + 1)) = ji47 := (i64_w _).trans hji47
         obtain ⟨c48, H⟩ : (0 ≤ (ji47)) ∧ _ := it_ H
         have c48b0 := decide_eq_true c48
         clear c48
         obtain ⟨c49, H⟩ : ((ji47) < (x10_1.length : Int)) ∧ _ := it_ H
         have c49b0 := decide_eq_true c49
         clear c49
         obtain ⟨c50, H⟩ : (0 ≤ x91_2) ∧ _ := it_ H
         have c50b0 := decide_eq_true c50
         clear c50
         obtain ⟨c51, H⟩ : (x91_2 < (x10_1.length : Int)) ∧ _ := it_ H
         have c51b0 := decide_eq_true c51
         clear c51
         obtain ⟨c52, H⟩ : (0 ≤ t227) ∧ _ := it_ H
         have c52b0 := eq_true c52
         have c52b1 := decide_eq_true c52
         clear c52
         obtain ⟨ji53, hji53⟩ : ∃ j_ : Int, (shr .u64 (Go.bits .or .u64 (IntKind.u64.wrap ((IntKind.u64.wrap (rd x10_1 (ji47))) * 4294967296)) (IntKind.u64.wrap (rd x10_1 x91_2))) t227) = j_ := ⟨_, rfl⟩
         first | rw [hji53] at H | simp only [hji53] at H
         have hji53_ : ((Go.bits .or .u64 (IntKind.u64.wrap ((IntKind.u64.wrap (rd x10_1 (ji47))) * 4294967296)) (IntKind.u64.wrap (rd x10_1 x91_2))) / 2 ^ min t227.toNat 64) = ji53 := hji53
         have hji53z : t227 ≤ 64 → ((Go.bits .or .u64 (IntKind.u64.wrap ((IntKind.u64.wrap (rd x10_1 (ji47))) * 4294967296)) (IntKind.u64.wrap (rd x10_1 x91_2))) / 2 ^ t227.toNat) = ji53 := shr_small hji53
         obtain ⟨c54, H⟩ : (x91_2 < (x15_2.length : Int)) ∧ _ := it_ H
         have c54b0 := decide_eq_true c54
         clear c54
         obtain ⟨y249, hy249⟩ : ∃ y_ : List Int, y_ = (x15_2.set (x91_2 : Int).toNat ((ji53) % 4294967296)) := ⟨_, rfl⟩
         first | rw [Option.bind_some, ← hy249] at H | rw [← hy249] at H
         have Ny249 := ak hy249
         clear hy249
         have H' := ak H
         clear H
         try go_wp2
         refine nx4_ (R_drew HO_10.out) (R_drew HO_12.out) (R_drew HO_15.out) (below_drew1 HB.out) ?_
         clear HO_10 HO_12 HO_15 HB
         intro HO_10 HO_12 HO_15 HB
         obtain ⟨Ao58, co58, eo58⟩ := R_slice HO_10.out
         (first | subst eo58 | (injection eo58 with f1_ f2_ f3_; have f4_ := f1_.symm; have f5_ := f3_.symm; clear f1_ f2_ f3_; subst f4_; subst f5_))
         have pfr57 : 0 ≤ ((ji47) : Int) := od_
         have qfr57 : ((ji47) : Int) < ((x10_1.length : Int) : Int) := od_
         obtain ⟨gofr57, cofr57, eofr57, gbfr57, glfr57, clfr57, HGfr57⟩ := Kd.R_form HO_10.out (by omega)
         (first | cases eofr57 | (injection eofr57 with ea_ en_ ec_; (first | subst ea_ | (injection ea_ with ea_; subst ea_)); subst ec_; clear en_))
         have GBfr57 := ak gbfr57
         have GGfr57 := ak HGfr57
         clear gbfr57 glfr57 HGfr57
         clear pfr57 qfr57
         have p247 : 0 ≤ ((ji47) : Int) := od_
         have q247 : (ji47) < (x10_1.length : Int) := od_
         obtain ⟨ad247, e247, hx247_0⟩ := Kd.at_int (R_reads' HO_10.out).2.2 (ji47) p247 q247
         obtain rfl : (⟨gofr57, 0, none⟩ : Addr) = ad247 := (by injection e247)
         (first | simp only [add_plain] at hx247_0 | simp only [add_at] at hx247_0 | simp only [Addr.add, Nat.zero_add] at hx247_0 | skip)
         replace p247 := eq_true p247
         replace q247 := eq_true q247
         have p248 : 0 ≤ (x91_2 : Int) := od_
         have q248 : x91_2 < (x10_1.length : Int) := od_
         obtain ⟨ad248, e248, hx248_0⟩ := Kd.at_int (R_reads' HO_10.out).2.2 x91_2 p248 q248
         obtain rfl : (⟨gofr57, 0, none⟩ : Addr) = ad248 := (by injection e248)
         (first | simp only [add_plain] at hx248_0 | simp only [add_at] at hx248_0 | simp only [Addr.add, Nat.zero_add] at hx248_0 | skip)
         replace p248 := eq_true p248
         replace q248 := eq_true q248
         have p55 : 0 ≤ (x91_2 : Int) := od_
         have q55 : (x91_2 : Int) < ((x15_2.length : Int) : Int) := od_
         obtain ⟨go55, co55, eo55, gb55, gl55, cl55, HG55⟩ := Kd.R_form HO_15.out (by omega)
         (first | cases eo55 | (injection eo55 with ea_ en_ ec_; (first | subst ea_ | (injection ea_ with ea_; subst ea_)); subst ec_; clear en_))
         have GB55 := ak gb55
         have GG55 := ak HG55
         clear gb55 gl55 HG55
         obtain ⟨hx55_0, hf55_0⟩ := Kd.R_celln 0 HO_15.out (x91_2 : Int) p55 q55
         replace p55 := eq_true p55
         replace q55 := eq_true q55
         have HP59 := Kd.R_putn HO_15.out (x91_2 : Int) ((ji53) % 4294967296)
         rw [← Ny249.out] at HP59
         have HQ59 := ak HP59
         clear HP59
         refine start_ (n := 20) (S := fun w' => w'.cell? ⟨gofr57, ((ji47)).toNat, none⟩ = some (.int .u32 (rd x10_1 (ji47))) ∧ w'.cell? ⟨gofr57, (x91_2).toNat, none⟩ = some (.int .u32 (rd x10_1 x91_2))) (ds := [19]) (bv 20 0) (by kernel_rfl) rfl rfl ⟨hx247_0, hx248_0⟩ (fun hHeld => ?_); refine with_tabW ratio_div.tab20 ratio_div.bits20 (fun HT_ HW_ => ?_)
         generalize wr.drew = w56 at HO_10 HO_12 HO_15 HB GG55 HQ59 hf55_0 hx247_0 hx248_0 hx55_0 hHeld ⊢
         refine pq_ 0 94 20 1 HT_.out ?_
         refine pq_ 1 95 20 3 HT_.out ?_
         refine pq_ 2 96 20 7 HT_.out ?_
         refine pq_ 3 97 20 15 HT_.out ?_
         refine pq_ 4 98 20 31 HT_.out ?_
         refine pq_ 5 99 20 63 HT_.out ?_
         refine pq_ 9 103 20 575 HT_.out ?_
         refine pq_ 10 104 20 1599 HT_.out ?_
         refine pq_ 11 105 20 3647 HT_.out ?_
         refine pq_ 15 109 20 36415 HT_.out ?_
         refine tq_ 6 100 20 36479 HT_.out HW_.out hHeld ?_
         refine pq_ 7 101 20 36607 HT_.out ?_
         refine pq_ 8 102 20 36863 HT_.out ?_
         refine tq_ 12 106 20 40959 HT_.out HW_.out hHeld ?_
         refine pq_ 13 107 20 49151 HT_.out ?_
         refine pq_ 14 108 20 65535 HT_.out ?_
         refine pq_ 16 110 20 131071 HT_.out ?_
         refine pq_ 17 111 20 262143 HT_.out ?_
         refine pq_ 18 112 20 524287 HT_.out ?_
         refine last_ (i := 19) (N := none) #[true, true, true, true, true, true, true, true, true, true, true, true, true, true, true, true, true, true, true, true] rfl rfl (one_of HT_.out (by kernel_rfl)) (by decide) (fun K hK => ?_)
         refine skip_ (w1 := ?_) (by rfl) rfl ?_ ?_
         rotate_left
         ·go_simp
          rfl
         refine hK.out _ _ ?_
         clear hK K
         refine done_ (done_of HT_.out (by kernel_rfl)) ?_
         try go_wp2
         go_roundg k2
         case measure => have := HK1.out; have := HK2.out; omega
         case rel => exact ⟨(y249), (ji47), (by first | rfl | (simp; done) | (simp only [← hji47] <;> (first | rfl | simp)) | (simp [*]; done)), H', ⟨by have := HK1.out; have := HK2.out; omega⟩, ⟨by (try simp only [hl12_1]); (with_reducible repeat (first | apply Kd.R_alloc | apply Kd.R_drewN | apply R_drew)); exact R_mono (R_far (p := ⟨go55, (x91_2 : Int).toNat, none⟩) (R_mono HO_10.out (fun k_ hk => (⟨hk, fun e_ => hk.2.2 (by rw [e_]; rfl)⟩ : _ ∧ k_ ≠ go55))) (fun _ hk => hk.2) (.int .u32 ((ji53) % 4294967296))) (fun _ hk => ⟨hk.1.1, ⟨hk.1.2.1, hk.1.2.2⟩⟩)⟩, ⟨by (try simp only [hl12_1]); (with_reducible repeat (first | apply Kd.R_alloc | apply Kd.R_drewN | apply R_drew)); exact R_mono (R_far (p := ⟨go55, (x91_2 : Int).toNat, none⟩) (R_mono HO_12.out (fun k_ hk => (⟨hk, fun e_ => hk.2.2 (by rw [e_]; rfl)⟩ : _ ∧ k_ ≠ go55))) (fun _ hk => hk.2) (.int .u32 ((ji53) % 4294967296))) (fun _ hk => ⟨hk.1.1, ⟨hk.1.2.1, hk.1.2.2⟩⟩)⟩, ⟨by (try simp only [hl12_1]); (with_reducible repeat (first | apply Kd.R_alloc | apply Kd.R_drewN | apply R_drew)); exact HQ59.out⟩, ⟨sU_⟩⟩
        ·rw [if_neg c46] at H
         have c46b0 := decide_eq_false c46
         clear c46
         revert H
         refine bd_ fun t250 A60 H => ?_
         revert H
         refine bd_ fun t253 A61 H => ?_
         simp only [Option.some.injEq, Prod.mk.injEq] at H
         obtain ⟨rfl, rfl⟩ := H
         go_wp2_with (first | ((with_reducible refine gate_callee (f := 68) rfl ?_); refine gl_ (some 115) Tryd.func68 #[.slice Ao31 x12_1.length co31] ?_; (with_reducible refine (ratio_trim.calls k2 (fun k_ => some k_ = (.slice Ao31 x12_1.length co31 : Value).ownBlock) _ _ x12_1 t250 _ ?side1 A60.out).mono ?_); (case side1 => exact R_V (R_tight rfl (HO_12.out))); rintro e w62 ⟨v251, rfl, ho0, hb⟩; refine ⟨_, rfl, ?_⟩; refine nx5_ (R_below (rU_ HO_10.out) hb) (R_below (rU_ HO_12.out) hb) (R_below (rU_ HO_15.out) hb) (V_lower (V_mono (ok' := fun k_ => (w.heap.size ≤ k_) ∧ some k_ ≠ (v229 : Value).ownBlock ∧ some k_ ≠ (v245 : Value).ownBlock) ho0 (fun k_ hk_ => ⟨Or.elim hk_ (fun hs_ => ((HO_12.out).1 k_ hs_.symm).1) (fun hn_ => (Nat.le_trans (below_size (bU_ HB.out)) hn_)), Or.elim hk_ (fun hs_ => ((HO_12.out).1 k_ hs_.symm).2.1) (fun hn_ => (fresh' (R_lt (rU_ HO_10.out)) k_ hn_)), Or.elim hk_ (fun hs_ => ((HO_12.out).1 k_ hs_.symm).2.2) (fun hn_ => (fresh' (R_lt (rU_ HO_15.out)) k_ hn_))⟩)) (below_size (bU_ HB.out))) (below_step (bU_ HB.out) hb) ?_; clear HO_10 HO_12 HO_15 HB; intro HO_10 HO_12 HO_15 HO252 HB; clear hb ho0; obtain ⟨Ao63, co63, eo63⟩ := R_slice HO_15.out; subst eo63) | ((with_reducible refine gate_callee (f := 68) rfl ?_); refine gl_ (some 117) Tryd.func68 #[.slice Ao63 x15_2.length co63] ?_; (with_reducible refine (ratio_trim.calls k2 (fun k_ => some k_ = (.slice Ao63 x15_2.length co63 : Value).ownBlock) _ _ x15_2 t253 _ ?side1 A61.out).mono ?_); (case side1 => exact R_V (R_tight rfl (HO_15.out))); rintro e w64 ⟨v254, rfl, ho0, hb⟩; refine ⟨_, rfl, ?_⟩; refine nx6_ (R_below (rU_ HO_10.out) hb) (R_below (rU_ HO_12.out) hb) (R_below (rU_ HO_15.out) hb) (V_below (vU_ HO252.out) hb) (V_lower (V_mono (ok' := fun k_ => (w.heap.size ≤ k_) ∧ some k_ ≠ (v229 : Value).ownBlock ∧ some k_ ≠ (.slice Ao31 x12_1.length co31 : Value).ownBlock) ho0 (fun k_ hk_ => ⟨Or.elim hk_ (fun hs_ => ((HO_15.out).1 k_ hs_.symm).1) (fun hn_ => (Nat.le_trans (below_size (bU_ HB.out)) hn_)), Or.elim hk_ (fun hs_ => ((HO_15.out).1 k_ hs_.symm).2.1) (fun hn_ => (fresh' (R_lt (rU_ HO_10.out)) k_ hn_)), Or.elim hk_ (fun hs_ => ((HO_15.out).1 k_ hs_.symm).2.2) (fun hn_ => (fresh' (R_lt (rU_ HO_12.out)) k_ hn_))⟩)) (below_size (bU_ HB.out))) (below_step (bU_ HB.out) hb) ?_; clear HO_10 HO_12 HO_15 HO252 HB; intro HO_10 HO_12 HO_15 HO252 HO255 HB; clear hb ho0))
         go_ret2
         exact ⟨_, _, by first | rfl | (simp [errW_none, errW_some] <;> rfl) | (simp only [← hji13, ← hji21]; first | rfl | (simp [errW_none, errW_some] <;> rfl)) | (simp [*, errW_none, errW_some] <;> rfl), by (with_reducible repeat (first | apply Kd.V_alloc | apply Kd.V_drewN | apply V_drew)); exact V_mono HO252.out (fun _ hk => hk.1), by (with_reducible repeat (first | apply Kd.V_alloc | apply Kd.V_drewN | apply V_drew)); exact V_mono HO255.out (fun _ hk => hk.1), bU_ HB.out⟩

def ratio_gcd.l0 : Nat → List Int → List Int → Option (List Int)
 | 0, _, _ => none
 | k + 1, x0, x1 => if (x1.length : Int) > 0 then ((ratio_div.f k x0 x1).bind fun bt208 => (ratio_gcd.l0 k x1 bt208.2)) else ((api_Nat_uint32.f x0).bind fun t214 => (some t214))
def ratio_gcd.f (k : Nat) (l0 : List Int) (l1 : List Int) : Option (List Int) := ratio_gcd.l0 k l0 l1
theorem ratio_gcd.mono_l : ∀ k, (∀ y0 y1, LeO (ratio_gcd.l0 k y0 y1) (ratio_gcd.l0 (k + 1) y0 y1))
 | 0 => fun _ _ r h => by simp [ratio_gcd.l0] at h
 | k + 1 => by
  have ih0 := ratio_gcd.mono_l k
  ·intro y0 y1
   unfold ratio_gcd.l0
   with_reducible repeat' first | apply ih0 | apply ratio_div.mono | exact LeO.refl _ | exact LeO.none _ | refine LeO.ite ?_ ?_ | refine LeO.bind ?_ (fun _ => ?_)
theorem ratio_gcd.mono : ∀ a0 a1 k, LeO (ratio_gcd.f k a0 a1) (ratio_gcd.f (k + 1) a0 a1) := by
 intro a0 a1 k
 have ih0 := ratio_gcd.mono_l k
 unfold ratio_gcd.f
 with_reducible repeat' first | apply ih0 | apply ratio_div.mono | exact LeO.refl _ | exact LeO.none _ | refine LeO.ite ?_ ?_ | refine LeO.bind ?_ (fun _ => ?_)
set_option maxHeartbeats 8000000 in
set_option maxRecDepth 100000 in
theorem ratio_gcd.calls (k : Nat) (P0_ : Nat → Prop) (A0 : Option Addr) (c0 : Nat) (l0 : List Int) (P1_ : Nat → Prop) (A1 : Option Addr) (c1 : Nat) (l1 : List Int) (r : List Int) (w : World) (hs0 : Kd.V (Kd.int .u32) 44 w w.heap.size (fun k_ => P0_ k_) (.slice A0 l0.length c0) l0) (hs1 : Kd.V (Kd.int .u32) 44 w w.heap.size (fun k_ => P1_ k_) (.slice A1 l1.length c1) l1) (h : ratio_gcd.f k l0 l1 = some r) :
  Calls Tryd.prog 76 #[.slice A0 l0.length c0, .slice A1 l1.length c1] w fun e w' => ∃ v0_ : Value, e = .returned (v0_) ∧ Kd.R (Kd.int .u32) 44 w' w.heap.size (fun k_ => (w.heap.size ≤ k_)) v0_ r ∧ Below w.heap.size w w' := by
 have HO0 := ak (show Kd.V (Kd.int .u32) 44 w w.heap.size (fun k_ => ((P0_ k_ ∨ P1_ k_) ∨ w.heap.size ≤ k_)) (.slice A0 l0.length c0) l0 from V_mono hs0 (fun k_ hk => .inl (.inl hk)))
 have HO1 := ak (show Kd.V (Kd.int .u32) 44 w w.heap.size (fun k_ => ((P0_ k_ ∨ P1_ k_) ∨ w.heap.size ≤ k_)) (.slice A1 l1.length c1) l1 from V_mono hs1 (fun k_ hk => .inl (.inr hk)))
 have HB := ak (Below.refl w.heap.size w)
 have H : (ratio_gcd.l0 k l0 l1) = some r := h
 clear h
 have H' := ak H
 clear H
 go_enter Tryd.func76, Tryd.ntmps76
 go_wp2
 go_loopg [0, 1] k (fun kq v0 v1 w' => ∃ (x0_1 : List Int) (x1_1 : List Int), Aside0 (ratio_gcd.l0 kq x0_1 x1_1 = some r) ∧ Aside0 (kq ≤ k) ∧ Aside0 (Kd.V (Kd.int .u32) 44 w' w.heap.size (fun k_ => ((P0_ k_ ∨ P1_ k_) ∨ w.heap.size ≤ k_)) v0 x0_1) ∧ Aside0 (Kd.V (Kd.int .u32) 44 w' w.heap.size (fun k_ => ((P0_ k_ ∨ P1_ k_) ∨ w.heap.size ≤ k_)) v1 x1_1) ∧ Aside0 (Below w.heap.size w w'))
 case atStart => exact ⟨(l0), (l1), H', ⟨Nat.le_refl _⟩, ⟨vU_ HO0.out⟩, ⟨vU_ HO1.out⟩, ⟨bU_ HB.out⟩⟩
 case round =>
  clear H'
  (try clear c1); (try clear p2)
  obtain ⟨x0_1, x1_1, HA, HK1, HO_0, HO_1, HB⟩ := hrel
  cases gk with
  | zero => exact absurd HA.out (by simp [ratio_gcd.l0])
  | succ k1 =>
   have H := HA.out
   clear HA
   simp only [ratio_gcd.l0] at H
   by_cases c3 : (x1_1.length : Int) > 0
   ·rw [if_pos c3] at H
    have c3b0 : decide (0 < (x1_1.length : Int)) = true := decide_eq_true c3
    have c3b1 : decide (0 < x1_1.length) = true := decide_eq_true (by omega)
    clear c3
    revert H
    refine bd2_ fun t208 t211 A4 H => ?_
    try dsimp only at H
    have H' := ak H
    clear H
    obtain ⟨Ao5, co5, eo5⟩ := V_slice HO_1.out
    subst eo5
    obtain ⟨Ao6, co6, eo6⟩ := V_slice HO_0.out
    subst eo6
    go_wp2_with (first | ((with_reducible refine gate_callee (f := 73) rfl ?_); refine gl_ (some 13) Tryd.func73 #[.slice Ao6 x0_1.length co6, .slice Ao5 x1_1.length co5] ?_; (with_reducible refine (ratio_div.calls k1 _ _ x0_1 _ _ x1_1 t208 t211 _ ?side1 ?side2 ?side3 ?side4 A4.out).mono ?_); (case side1 => exact cU_ ((V_reads' HO_0.out).2.2)); (case side2 => exact (V_reads' HO_0.out).2.1); (case side3 => exact cU_ ((V_reads' HO_1.out).2.2)); (case side4 => exact (V_reads' HO_1.out).2.1); rintro e w7 ⟨v209, v212, rfl, ho0, ho1, hb⟩; refine ⟨_, rfl, ?_⟩; refine nx5_ (V_below (vU_ HO_0.out) hb) (V_below (vU_ HO_1.out) hb) (V_lower (V_mono (ok' := fun k_ => ((P0_ k_ ∨ P1_ k_) ∨ w.heap.size ≤ k_)) ho0 (fun k_ hk_ => (.inr (Nat.le_trans (below_size (bU_ HB.out)) hk_)))) (below_size (bU_ HB.out))) (V_lower (V_mono (ok' := fun k_ => ((P0_ k_ ∨ P1_ k_) ∨ w.heap.size ≤ k_)) ho1 (fun k_ hk_ => (.inr (Nat.le_trans (below_size (bU_ HB.out)) hk_)))) (below_size (bU_ HB.out))) (below_step (bU_ HB.out) hb) ?_; clear HO_0 HO_1 HB; intro HO_0 HO_1 HO210 HO213 HB; clear hb ho0 ho1))
    go_roundg k1
    case measure => have := HK1.out; omega
    case rel => exact ⟨(x1_1), (t211), H', ⟨by have := HK1.out; omega⟩, ⟨vU_ HO_1.out⟩, ⟨vU_ HO213.out⟩, ⟨bU_ HB.out⟩⟩
   ·rw [if_neg c3] at H
    have c3b0 : decide (0 < (x1_1.length : Int)) = false := decide_eq_false c3
    have c3b1 : decide (0 < x1_1.length) = false := decide_eq_false (by omega)
    clear c3
    revert H
    refine bd_ fun t214 A8 H => ?_
    obtain rfl := Option.some.inj H
    obtain ⟨Ao9, co9, eo9⟩ := V_slice HO_1.out
    subst eo9
    obtain ⟨Ao10, co10, eo10⟩ := V_slice HO_0.out
    subst eo10
    go_wp2_with (first | ((with_reducible refine gate_callee (f := 88) rfl ?_); refine gl_ (some 19) Tryd.func88 #[.slice Ao10 x0_1.length co10] ?_; (with_reducible refine (api_Nat_uint32.calls _ _ x0_1 t214 _ ?side1 ?side2 A8.out).mono ?_); (case side1 => exact cU_ ((V_reads' HO_0.out).2.2)); (case side2 => exact (V_reads' HO_0.out).2.1); rintro e w11 ⟨v215, rfl, ho0, hb⟩; refine ⟨_, rfl, ?_⟩; refine nx4_ (V_elder' (vU_ HO_0.out) (R_base ho0) hb) (V_elder' (vU_ HO_1.out) (R_base ho0) hb) (R_lower (R_newM (M := fun k_ => (w.heap.size ≤ k_)) ho0 (below_size (bU_ HB.out)) (fun k_ h_ => h_)) (below_size (bU_ HB.out))) (below_step (bU_ HB.out) hb) ?_; clear HO_0 HO_1 HB; intro HO_0 HO_1 HO216 HB; clear hb ho0))
    go_ret
    exact ⟨_, eW_, R_mono (rU_ HO216.out) (fun _ hk => hk.1), bU_ HB.out⟩

def ratio_lowest.f (k : Nat) (l0 : List Int) (l1 : List Int) : Option (List Int × List Int × Int) := (ratio_gcd.f k l0 l1).bind fun t218 => ((ratio_div.f k l0 t218).bind fun bt221 => ((ratio_div.f k l1 t218).bind fun bt227 => (if (bt221.1.length : Int) > 64 then (some (([] : List Int), ([] : List Int), 3)) else (if (bt227.1.length : Int) > 64 then (some (([] : List Int), ([] : List Int), 3)) else (some (bt221.1, bt227.1, 0))))))
theorem ratio_lowest.mono : ∀ a0 a1 k, LeO (ratio_lowest.f k a0 a1) (ratio_lowest.f (k + 1) a0 a1) := by
 intro a0 a1 k
 unfold ratio_lowest.f
 with_reducible repeat' first | apply ratio_div.mono | apply ratio_gcd.mono | exact LeO.refl _ | exact LeO.none _ | refine LeO.ite ?_ ?_ | refine LeO.bind ?_ (fun _ => ?_)
set_option maxHeartbeats 8000000 in
set_option maxRecDepth 100000 in
theorem ratio_lowest.calls (k : Nat) (A0 : Option Addr) (c0 : Nat) (l0 : List Int) (A1 : Option Addr) (c1 : Nat) (l1 : List Int) (r1 : List Int) (r2 : List Int) (r3 : Int) (w : World) (hr0 : Kd.C (Kd.int .u32) w A0 l0.length l0) (hc0 : l0.length ≤ c0) (hr1 : Kd.C (Kd.int .u32) w A1 l1.length l1) (hc1 : l1.length ≤ c1) (h : ratio_lowest.f k l0 l1 = some (r1, r2, r3)) :
  Calls Tryd.prog 77 #[.slice A0 l0.length c0, .slice A1 l1.length c1] w fun e w' => ∃ v0_ v1_ : Value, e = .returned (.tuple #[.agg #[v0_, v1_], .int .i64 r3]) ∧ Kd.V (Kd.int .u32) 44 w' w.heap.size (fun k_ => (w.heap.size ≤ k_)) v0_ r1 ∧ Kd.V (Kd.int .u32) 44 w' w.heap.size (fun k_ => (w.heap.size ≤ k_)) v1_ r2 ∧ Below w.heap.size w w' := by
 have hu29 := Tryd.underlying29
 have HR0 := ak hr0
 have HC0 := ak hc0
 clear hr0 hc0
 have HR1 := ak hr1
 have HC1 := ak hc1
 clear hr1 hc1
 have HB := ak (Below.refl w.heap.size w)
 have H := h
 clear h
 unfold ratio_lowest.f at H
 revert H
 refine bd_ fun t218 A3 H => ?_
 revert H
 refine bd2_ fun t221 t224 A4 H => ?_
 try dsimp only at H
 revert H
 refine bd2_ fun t227 t230 A5 H => ?_
 try dsimp only at H
 by_cases c6 : (t221.length : Int) > 64
 ·rw [if_pos c6] at H
  have c6b0 : decide (64 < (t221.length : Int)) = true := decide_eq_true c6
  have c6b1 : decide (64 < t221.length) = true := decide_eq_true (by omega)
  clear c6
  simp only [Option.some.injEq, Prod.mk.injEq] at H
  obtain ⟨rfl, rfl, rfl⟩ := H
  go_enter Tryd.func77, Tryd.ntmps77
  go_wp2_with (first | ((with_reducible refine gate_dst (N := 4) rfl ?_); (try (refine gate_guard (by rfl) ?_; dsimp only)); refine bx_ 4 29 #[.slice none 0 0, .slice none 0 0] ?_; intro gb217 hg w7 hbox hb; refine nx4_ (below_step (bU_ HB.out) hb) (hbox) ((hs_ hg (below_size (bU_ HB.out)))) ((hs_ hg (below_size (bU_ HB.out)))) ?_; clear HB; intro HB BK217 GW217 GE217; clear hb hbox hg) | ((with_reducible refine gate_callee (f := 76) rfl ?_); refine gl_ (some 13) Tryd.func76 #[.slice A0 l0.length c0, .slice A1 l1.length c1] ?_; (with_reducible refine (ratio_gcd.calls k (fun k_ => k_ < w.heap.size) _ _ l0 (fun k_ => k_ < w.heap.size) _ _ l1 t218 _ ?side1 ?side2 A3.out).mono ?_); (case side1 => exact V_mk HC0.out (F_below (C_F (heap_int .u32) HR0.out) sU_)); (case side2 => exact V_mk HC1.out (F_below (C_F (heap_int .u32) HR1.out) sU_)); rintro e w8 ⟨v219, rfl, ho0, hb⟩; refine ⟨_, rfl, ?_⟩; refine nx3_ (R_lower (R_newM (M := fun k_ => (w.heap.size ≤ k_)) (R_mono (ok' := fun k_ => True) ho0 (fun _ hk_ => trivial)) (below_size sU_) (fun k_ h_ => h_)) (below_size sU_)) (blk_below (kU_ BK217.out) hb) (below_step sU_ hb) ?_; clear BK217 HB; intro HO220 BK217 HB; clear hb ho0; obtain ⟨Ao9, co9, eo9⟩ := R_slice HO220.out; subst eo9) | ((with_reducible refine gate_callee (f := 73) rfl ?_); refine gl_ (some 17) Tryd.func73 #[.slice A0 l0.length c0, .slice Ao9 t218.length co9] ?_; (with_reducible refine (ratio_div.calls k _ _ l0 _ _ t218 t221 t224 _ ?side1 ?side2 ?side3 ?side4 A4.out).mono ?_); (case side1 => exact cU_ (C_below HR0.out HB.out)); (case side2 => exact HC0.out); (case side3 => exact cU_ ((R_reads' HO220.out).2.2)); (case side4 => exact (R_reads' HO220.out).2.1); rintro e w10 ⟨v222, v225, rfl, ho0, ho1, hb⟩; refine ⟨_, rfl, ?_⟩; refine nx5_ (R_below (rU_ HO220.out) hb) (V_lower (V_mono (ok' := fun k_ => (w.heap.size ≤ k_) ∧ some k_ ≠ (.slice Ao9 t218.length co9 : Value).ownBlock ∧ k_ ≠ gb217) ho0 (fun k_ hk_ => ⟨(Nat.le_trans (below_size sU_) hk_), (fresh' (R_lt (rU_ HO220.out)) k_ hk_), (freshB (kU_ BK217.out) k_ hk_)⟩)) (below_size sU_)) (V_lower (V_mono (ok' := fun k_ => (w.heap.size ≤ k_) ∧ some k_ ≠ (.slice Ao9 t218.length co9 : Value).ownBlock ∧ k_ ≠ gb217) ho1 (fun k_ hk_ => ⟨(Nat.le_trans (below_size sU_) hk_), (fresh' (R_lt (rU_ HO220.out)) k_ hk_), (freshB (kU_ BK217.out) k_ hk_)⟩)) (below_size sU_)) (blk_below (kU_ BK217.out) hb) (below_step sU_ hb) ?_; clear HO220 BK217 HB; intro HO220 HO223 HO226 BK217 HB; clear hb ho0 ho1) | ((with_reducible refine gate_callee (f := 73) rfl ?_); refine gl_ (some 23) Tryd.func73 #[.slice A1 l1.length c1, .slice Ao9 t218.length co9] ?_; (with_reducible refine (ratio_div.calls k _ _ l1 _ _ t218 t227 t230 _ ?side1 ?side2 ?side3 ?side4 A5.out).mono ?_); (case side1 => exact cU_ (C_below HR1.out HB.out)); (case side2 => exact HC1.out); (case side3 => exact cU_ ((R_reads' HO220.out).2.2)); (case side4 => exact (R_reads' HO220.out).2.1); rintro e w11 ⟨v228, v231, rfl, ho0, ho1, hb⟩; refine ⟨_, rfl, ?_⟩; refine nx7_ (R_below (rU_ HO220.out) hb) (V_below (vU_ HO223.out) hb) (V_below (vU_ HO226.out) hb) (V_lower (V_mono (ok' := fun k_ => (w.heap.size ≤ k_) ∧ some k_ ≠ (.slice Ao9 t218.length co9 : Value).ownBlock ∧ k_ ≠ gb217) ho0 (fun k_ hk_ => ⟨(Nat.le_trans (below_size sU_) hk_), (fresh' (R_lt (rU_ HO220.out)) k_ hk_), (freshB (kU_ BK217.out) k_ hk_)⟩)) (below_size sU_)) (V_lower (V_mono (ok' := fun k_ => (w.heap.size ≤ k_) ∧ some k_ ≠ (.slice Ao9 t218.length co9 : Value).ownBlock ∧ k_ ≠ gb217) ho1 (fun k_ hk_ => ⟨(Nat.le_trans (below_size sU_) hk_), (fresh' (R_lt (rU_ HO220.out)) k_ hk_), (freshB (kU_ BK217.out) k_ hk_)⟩)) (below_size sU_)) (blk_below (kU_ BK217.out) hb) (below_step sU_ hb) ?_; clear HO220 HO223 HO226 BK217 HB; intro HO220 HO223 HO226 HO229 HO232 BK217 HB; clear hb ho0 ho1; obtain ⟨Ao12, co12, eo12⟩ := V_slice HO223.out; subst eo12; have hcz13_0 := bc0_ BK217.out; have hcz13_1 := bc1_ BK217.out; have hfz13_0 := blk_frozen BK217.out 0; have hfz13_1 := blk_frozen BK217.out 1))
  refine bodyPost_ret (results_ct rfl _ _ gb217 29 #[.slice none 0 0, .slice none 0 0] (0, 0) _ rfl kp_ Tryd.underlying29 rfl (by kernel_rfl)) rfl ?_
  exact ⟨_, _, eW_, Kd.V_nil _ _ _ _ _, Kd.V_nil _ _ _ _ _, sU_⟩
 ·rw [if_neg c6] at H
  have c6b0 : decide (64 < (t221.length : Int)) = false := decide_eq_false c6
  have c6b1 : decide (64 < t221.length) = false := decide_eq_false (by omega)
  clear c6
  by_cases c14 : (t227.length : Int) > 64
  ·rw [if_pos c14] at H
   have c14b0 : decide (64 < (t227.length : Int)) = true := decide_eq_true c14
   have c14b1 : decide (64 < t227.length) = true := decide_eq_true (by omega)
   clear c14
   simp only [Option.some.injEq, Prod.mk.injEq] at H
   obtain ⟨rfl, rfl, rfl⟩ := H
   go_enter Tryd.func77, Tryd.ntmps77
   go_wp2_with (first | ((with_reducible refine gate_dst (N := 4) rfl ?_); (try (refine gate_guard (by rfl) ?_; dsimp only)); refine bx_ 4 29 #[.slice none 0 0, .slice none 0 0] ?_; intro gb217 hg w15 hbox hb; refine nx4_ (below_step (bU_ HB.out) hb) (hbox) ((hs_ hg (below_size (bU_ HB.out)))) ((hs_ hg (below_size (bU_ HB.out)))) ?_; clear HB; intro HB BK217 GW217 GE217; clear hb hbox hg) | ((with_reducible refine gate_callee (f := 76) rfl ?_); refine gl_ (some 13) Tryd.func76 #[.slice A0 l0.length c0, .slice A1 l1.length c1] ?_; (with_reducible refine (ratio_gcd.calls k (fun k_ => k_ < w.heap.size) _ _ l0 (fun k_ => k_ < w.heap.size) _ _ l1 t218 _ ?side1 ?side2 A3.out).mono ?_); (case side1 => exact V_mk HC0.out (F_below (C_F (heap_int .u32) HR0.out) sU_)); (case side2 => exact V_mk HC1.out (F_below (C_F (heap_int .u32) HR1.out) sU_)); rintro e w16 ⟨v219, rfl, ho0, hb⟩; refine ⟨_, rfl, ?_⟩; refine nx3_ (R_lower (R_newM (M := fun k_ => (w.heap.size ≤ k_)) (R_mono (ok' := fun k_ => True) ho0 (fun _ hk_ => trivial)) (below_size sU_) (fun k_ h_ => h_)) (below_size sU_)) (blk_below (kU_ BK217.out) hb) (below_step sU_ hb) ?_; clear BK217 HB; intro HO220 BK217 HB; clear hb ho0; obtain ⟨Ao17, co17, eo17⟩ := R_slice HO220.out; subst eo17) | ((with_reducible refine gate_callee (f := 73) rfl ?_); refine gl_ (some 17) Tryd.func73 #[.slice A0 l0.length c0, .slice Ao17 t218.length co17] ?_; (with_reducible refine (ratio_div.calls k _ _ l0 _ _ t218 t221 t224 _ ?side1 ?side2 ?side3 ?side4 A4.out).mono ?_); (case side1 => exact cU_ (C_below HR0.out HB.out)); (case side2 => exact HC0.out); (case side3 => exact cU_ ((R_reads' HO220.out).2.2)); (case side4 => exact (R_reads' HO220.out).2.1); rintro e w18 ⟨v222, v225, rfl, ho0, ho1, hb⟩; refine ⟨_, rfl, ?_⟩; refine nx5_ (R_below (rU_ HO220.out) hb) (V_lower (V_mono (ok' := fun k_ => (w.heap.size ≤ k_) ∧ some k_ ≠ (.slice Ao17 t218.length co17 : Value).ownBlock ∧ k_ ≠ gb217) ho0 (fun k_ hk_ => ⟨(Nat.le_trans (below_size sU_) hk_), (fresh' (R_lt (rU_ HO220.out)) k_ hk_), (freshB (kU_ BK217.out) k_ hk_)⟩)) (below_size sU_)) (V_lower (V_mono (ok' := fun k_ => (w.heap.size ≤ k_) ∧ some k_ ≠ (.slice Ao17 t218.length co17 : Value).ownBlock ∧ k_ ≠ gb217) ho1 (fun k_ hk_ => ⟨(Nat.le_trans (below_size sU_) hk_), (fresh' (R_lt (rU_ HO220.out)) k_ hk_), (freshB (kU_ BK217.out) k_ hk_)⟩)) (below_size sU_)) (blk_below (kU_ BK217.out) hb) (below_step sU_ hb) ?_; clear HO220 BK217 HB; intro HO220 HO223 HO226 BK217 HB; clear hb ho0 ho1) | ((with_reducible refine gate_callee (f := 73) rfl ?_); refine gl_ (some 23) Tryd.func73 #[.slice A1 l1.length c1, .slice Ao17 t218.length co17] ?_; (with_reducible refine (ratio_div.calls k _ _ l1 _ _ t218 t227 t230 _ ?side1 ?side2 ?side3 ?side4 A5.out).mono ?_); (case side1 => exact cU_ (C_below HR1.out HB.out)); (case side2 => exact HC1.out); (case side3 => exact cU_ ((R_reads' HO220.out).2.2)); (case side4 => exact (R_reads' HO220.out).2.1); rintro e w19 ⟨v228, v231, rfl, ho0, ho1, hb⟩; refine ⟨_, rfl, ?_⟩; refine nx7_ (R_below (rU_ HO220.out) hb) (V_below (vU_ HO223.out) hb) (V_below (vU_ HO226.out) hb) (V_lower (V_mono (ok' := fun k_ => (w.heap.size ≤ k_) ∧ some k_ ≠ (.slice Ao17 t218.length co17 : Value).ownBlock ∧ k_ ≠ gb217) ho0 (fun k_ hk_ => ⟨(Nat.le_trans (below_size sU_) hk_), (fresh' (R_lt (rU_ HO220.out)) k_ hk_), (freshB (kU_ BK217.out) k_ hk_)⟩)) (below_size sU_)) (V_lower (V_mono (ok' := fun k_ => (w.heap.size ≤ k_) ∧ some k_ ≠ (.slice Ao17 t218.length co17 : Value).ownBlock ∧ k_ ≠ gb217) ho1 (fun k_ hk_ => ⟨(Nat.le_trans (below_size sU_) hk_), (fresh' (R_lt (rU_ HO220.out)) k_ hk_), (freshB (kU_ BK217.out) k_ hk_)⟩)) (below_size sU_)) (blk_below (kU_ BK217.out) hb) (below_step sU_ hb) ?_; clear HO220 HO223 HO226 BK217 HB; intro HO220 HO223 HO226 HO229 HO232 BK217 HB; clear hb ho0 ho1; obtain ⟨Ao20, co20, eo20⟩ := V_slice HO223.out; subst eo20; obtain ⟨Ao21, co21, eo21⟩ := V_slice HO229.out; subst eo21; have hcz22_0 := bc0_ BK217.out; have hcz22_1 := bc1_ BK217.out; have hfz22_0 := blk_frozen BK217.out 0; have hfz22_1 := blk_frozen BK217.out 1))
   refine bodyPost_ret (results_ct rfl _ _ gb217 29 #[.slice none 0 0, .slice none 0 0] (0, 0) _ rfl kp_ Tryd.underlying29 rfl (by kernel_rfl)) rfl ?_
   exact ⟨_, _, eW_, Kd.V_nil _ _ _ _ _, Kd.V_nil _ _ _ _ _, sU_⟩
  ·rw [if_neg c14] at H
   have c14b0 : decide (64 < (t227.length : Int)) = false := decide_eq_false c14
   have c14b1 : decide (64 < t227.length) = false := decide_eq_false (by omega)
   clear c14
   simp only [Option.some.injEq, Prod.mk.injEq] at H
   obtain ⟨rfl, rfl, rfl⟩ := H
   go_enter Tryd.func77, Tryd.ntmps77
   go_wp2_with (first | ((with_reducible refine gate_dst (N := 4) rfl ?_); (try (refine gate_guard (by rfl) ?_; dsimp only)); refine bx_ 4 29 #[.slice none 0 0, .slice none 0 0] ?_; intro gb217 hg w23 hbox hb; refine nx4_ (below_step (bU_ HB.out) hb) (hbox) ((hs_ hg (below_size (bU_ HB.out)))) ((hs_ hg (below_size (bU_ HB.out)))) ?_; clear HB; intro HB BK217 GW217 GE217; clear hb hbox hg) | ((with_reducible refine gate_callee (f := 76) rfl ?_); refine gl_ (some 13) Tryd.func76 #[.slice A0 l0.length c0, .slice A1 l1.length c1] ?_; (with_reducible refine (ratio_gcd.calls k (fun k_ => k_ < w.heap.size) _ _ l0 (fun k_ => k_ < w.heap.size) _ _ l1 t218 _ ?side1 ?side2 A3.out).mono ?_); (case side1 => exact V_mk HC0.out (F_below (C_F (heap_int .u32) HR0.out) sU_)); (case side2 => exact V_mk HC1.out (F_below (C_F (heap_int .u32) HR1.out) sU_)); rintro e w24 ⟨v219, rfl, ho0, hb⟩; refine ⟨_, rfl, ?_⟩; refine nx3_ (R_lower (R_newM (M := fun k_ => (w.heap.size ≤ k_)) (R_mono (ok' := fun k_ => True) ho0 (fun _ hk_ => trivial)) (below_size sU_) (fun k_ h_ => h_)) (below_size sU_)) (blk_below (kU_ BK217.out) hb) (below_step sU_ hb) ?_; clear BK217 HB; intro HO220 BK217 HB; clear hb ho0; obtain ⟨Ao25, co25, eo25⟩ := R_slice HO220.out; subst eo25) | ((with_reducible refine gate_callee (f := 73) rfl ?_); refine gl_ (some 17) Tryd.func73 #[.slice A0 l0.length c0, .slice Ao25 t218.length co25] ?_; (with_reducible refine (ratio_div.calls k _ _ l0 _ _ t218 t221 t224 _ ?side1 ?side2 ?side3 ?side4 A4.out).mono ?_); (case side1 => exact cU_ (C_below HR0.out HB.out)); (case side2 => exact HC0.out); (case side3 => exact cU_ ((R_reads' HO220.out).2.2)); (case side4 => exact (R_reads' HO220.out).2.1); rintro e w26 ⟨v222, v225, rfl, ho0, ho1, hb⟩; refine ⟨_, rfl, ?_⟩; refine nx5_ (R_below (rU_ HO220.out) hb) (V_lower (V_mono (ok' := fun k_ => (w.heap.size ≤ k_) ∧ some k_ ≠ (.slice Ao25 t218.length co25 : Value).ownBlock ∧ k_ ≠ gb217) ho0 (fun k_ hk_ => ⟨(Nat.le_trans (below_size sU_) hk_), (fresh' (R_lt (rU_ HO220.out)) k_ hk_), (freshB (kU_ BK217.out) k_ hk_)⟩)) (below_size sU_)) (V_lower (V_mono (ok' := fun k_ => (w.heap.size ≤ k_) ∧ some k_ ≠ (.slice Ao25 t218.length co25 : Value).ownBlock ∧ k_ ≠ gb217) ho1 (fun k_ hk_ => ⟨(Nat.le_trans (below_size sU_) hk_), (fresh' (R_lt (rU_ HO220.out)) k_ hk_), (freshB (kU_ BK217.out) k_ hk_)⟩)) (below_size sU_)) (blk_below (kU_ BK217.out) hb) (below_step sU_ hb) ?_; clear HO220 BK217 HB; intro HO220 HO223 HO226 BK217 HB; clear hb ho0 ho1) | ((with_reducible refine gate_callee (f := 73) rfl ?_); refine gl_ (some 23) Tryd.func73 #[.slice A1 l1.length c1, .slice Ao25 t218.length co25] ?_; (with_reducible refine (ratio_div.calls k _ _ l1 _ _ t218 t227 t230 _ ?side1 ?side2 ?side3 ?side4 A5.out).mono ?_); (case side1 => exact cU_ (C_below HR1.out HB.out)); (case side2 => exact HC1.out); (case side3 => exact cU_ ((R_reads' HO220.out).2.2)); (case side4 => exact (R_reads' HO220.out).2.1); rintro e w27 ⟨v228, v231, rfl, ho0, ho1, hb⟩; refine ⟨_, rfl, ?_⟩; refine nx7_ (R_below (rU_ HO220.out) hb) (V_below (vU_ HO223.out) hb) (V_below (vU_ HO226.out) hb) (V_lower (V_mono (ok' := fun k_ => (w.heap.size ≤ k_) ∧ some k_ ≠ (.slice Ao25 t218.length co25 : Value).ownBlock ∧ k_ ≠ gb217) ho0 (fun k_ hk_ => ⟨(Nat.le_trans (below_size sU_) hk_), (fresh' (R_lt (rU_ HO220.out)) k_ hk_), (freshB (kU_ BK217.out) k_ hk_)⟩)) (below_size sU_)) (V_lower (V_mono (ok' := fun k_ => (w.heap.size ≤ k_) ∧ some k_ ≠ (.slice Ao25 t218.length co25 : Value).ownBlock ∧ k_ ≠ gb217) ho1 (fun k_ hk_ => ⟨(Nat.le_trans (below_size sU_) hk_), (fresh' (R_lt (rU_ HO220.out)) k_ hk_), (freshB (kU_ BK217.out) k_ hk_)⟩)) (below_size sU_)) (blk_below (kU_ BK217.out) hb) (below_step sU_ hb) ?_; clear HO220 HO223 HO226 BK217 HB; intro HO220 HO223 HO226 HO229 HO232 BK217 HB; clear hb ho0 ho1; obtain ⟨Ao28, co28, eo28⟩ := V_slice HO223.out; subst eo28; obtain ⟨Ao29, co29, eo29⟩ := V_slice HO229.out; subst eo29; have hcz30_0 := bc0_ BK217.out; have hcz30_1 := bc1_ BK217.out; have hfz30_0 := blk_frozen BK217.out 0; have hfz30_1 := blk_frozen BK217.out 1))
   refine bodyPost_ret (results_ct rfl _ _ gb217 29 #[.slice Ao28 t221.length co28, .slice Ao29 t227.length co29] (0, 0) _ rfl kp_ Tryd.underlying29 rfl (by kernel_rfl)) rfl ?_
   exact ⟨_, _, eW_, by (with_reducible repeat (first | apply Kd.V_alloc | apply Kd.V_drewN | apply V_drew)); exact V_mono (V_far (p := ⟨gb217, 1, none⟩) (V_far (p := ⟨gb217, 0, none⟩) (V_mono HO223.out (fun k_ hk => (⟨hk, hk.2.2⟩ : _ ∧ k_ ≠ gb217))) (fun _ hk => hk.2) (.slice Ao28 t221.length co28)) (fun _ hk => hk.2) (.slice Ao29 t227.length co29)) (fun _ hk => hk.1.1), by (with_reducible repeat (first | apply Kd.V_alloc | apply Kd.V_drewN | apply V_drew)); exact V_mono (V_far (p := ⟨gb217, 1, none⟩) (V_far (p := ⟨gb217, 0, none⟩) (V_mono HO229.out (fun k_ hk => (⟨hk, hk.2.2⟩ : _ ∧ k_ ≠ gb217))) (fun _ hk => hk.2) (.slice Ao28 t221.length co28)) (fun _ hk => hk.2) (.slice Ao29 t227.length co29)) (fun _ hk => hk.1.1), sU_⟩

def ratio_New.j0 : Nat → List Int → List Int → Bool → Option (List Int × List Int × Int)
 | 0, _, _, _ => none
 | k + 1, x0, x1, x6 => if x6 = true then (some (([] : List Int), ([] : List Int), 1)) else (if (x1.length : Int) = 0 then (some (([] : List Int), ([] : List Int), 2)) else ((ratio_lowest.f k x0 x1).bind fun bt236 => (some (bt236.1, bt236.2.1, bt236.2.2))))
def ratio_New.f (k : Nat) (l0 : List Int) (l1 : List Int) : Option (List Int × List Int × Int) := (ratio_ValidNat.f k l0).bind fun t234 => (if t234 = true then ((ratio_ValidNat.f k l1).bind fun t235 => (ratio_New.j0 k l0 l1 (!t235))) else (ratio_New.j0 k l0 l1 true))
theorem ratio_New.mono_l : ∀ k, (∀ y0 y1 y2, LeO (ratio_New.j0 k y0 y1 y2) (ratio_New.j0 (k + 1) y0 y1 y2))
 | 0 => fun _ _ _ r h => by simp [ratio_New.j0] at h
 | k + 1 => by
  have ih0 := ratio_New.mono_l k
  ·intro y0 y1 y2
   unfold ratio_New.j0
   with_reducible repeat' first | apply ih0 | apply ratio_ValidNat.mono | apply ratio_lowest.mono | exact LeO.refl _ | exact LeO.none _ | refine LeO.ite ?_ ?_ | refine LeO.bind ?_ (fun _ => ?_)
theorem ratio_New.mono : ∀ a0 a1 k, LeO (ratio_New.f k a0 a1) (ratio_New.f (k + 1) a0 a1) := by
 intro a0 a1 k
 have ih0 := ratio_New.mono_l k
 unfold ratio_New.f
 with_reducible repeat' first | apply ih0 | apply ratio_ValidNat.mono | apply ratio_lowest.mono | exact LeO.refl _ | exact LeO.none _ | refine LeO.ite ?_ ?_ | refine LeO.bind ?_ (fun _ => ?_)
set_option maxHeartbeats 8000000 in
set_option maxRecDepth 100000 in
theorem ratio_New.calls (k : Nat) (A0 : Option Addr) (c0 : Nat) (l0 : List Int) (A1 : Option Addr) (c1 : Nat) (l1 : List Int) (r1 : List Int) (r2 : List Int) (r3 : Int) (w : World) (hr0 : Kd.C (Kd.int .u32) w A0 l0.length l0) (hc0 : l0.length ≤ c0) (hr1 : Kd.C (Kd.int .u32) w A1 l1.length l1) (hc1 : l1.length ≤ c1) (h : ratio_New.f k l0 l1 = some (r1, r2, r3)) :
  Calls Tryd.prog 32 #[.slice A0 l0.length c0, .slice A1 l1.length c1] w fun e w' => ∃ v0_ v1_ : Value, e = .returned (.tuple #[.agg #[v0_, v1_], .int .i64 r3]) ∧ Kd.V (Kd.int .u32) 44 w' w.heap.size (fun k_ => (w.heap.size ≤ k_)) v0_ r1 ∧ Kd.V (Kd.int .u32) 44 w' w.heap.size (fun k_ => (w.heap.size ≤ k_)) v1_ r2 ∧ Below w.heap.size w w' := by
 have hu29 := Tryd.underlying29
 have HR0 := ak hr0
 have HC0 := ak hc0
 clear hr0 hc0
 have HR1 := ak hr1
 have HC1 := ak hc1
 clear hr1 hc1
 have HB := ak (Below.refl w.heap.size w)
 have H := h
 clear h
 unfold ratio_New.f at H
 have HC3 := ak H
 clear H
 go_enter Tryd.func32, Tryd.ntmps32
 go_upto_region 1 with (first | ((with_reducible refine gate_dst (N := 4) rfl ?_); refine bx_ 4 29 #[.slice none 0 0, .slice none 0 0] ?_; intro gb233 hg w4 hbox hb; refine nx4_ (below_step (bU_ HB.out) hb) (hbox) ((hs_ hg (below_size (bU_ HB.out)))) ((hs_ hg (below_size (bU_ HB.out)))) ?_; clear HB; intro HB BK233 GW233 GE233; clear hb hbox hg))
 (try simp only [Act.put, s1_, s2_, s3_])
 go_cut [6] (fun v6 wc => ∃ (kq : Nat) (x6_2 : Bool), v6 = .bool x6_2 ∧ Aside0 (ratio_New.j0 kq l0 l1 x6_2 = some (r1, r2, r3)) ∧ Aside0 (kq ≤ k) ∧ Aside0 (wc.heap[gb233]? = some (.cells #[(.slice none 0 0), (.slice none 0 0)] 29 (0, 0))) ∧ Aside0 (Below w.heap.size w wc))
 case first =>
  have H := HC3.out
  clear HC3
  revert H
  refine bd_ fun t234 A5 H => ?_
  by_cases c6 : t234 = true
  ·subst c6
   rw [if_pos rfl] at H
   revert H
   refine bd_ fun t235 A7 H => ?_
   have H' := ak H
   clear H
   go_wp2_with (first | ((with_reducible refine gate_callee (f := 27) rfl ?_); refine gl_ (some 8) Tryd.func27 #[.slice A0 l0.length c0] ?_; (with_reducible refine (ratio_ValidNat.calls k _ _ l0 true _ ?side1 ?side2 A5.out).mono ?_); (case side1 => exact cU_ (C_below HR0.out HB.out)); (case side2 => exact HC0.out); rintro e w8 ⟨rfl, hb⟩; refine ⟨_, rfl, ?_⟩; refine nx2_ (blk_below (kU_ BK233.out) hb) (below_step sU_ hb) ?_; clear BK233 HB; intro BK233 HB; clear hb) | (go_at_call 27; (with_reducible refine (ratio_ValidNat.calls k _ _ l1 t235 _ ?side1 ?side2 A7.out).mono ?_); (case side1 => exact cU_ (C_below HR1.out HB.out)); (case side2 => exact HC1.out); rintro e w9 ⟨rfl, hb⟩; refine nx2_ (blk_below (kU_ BK233.out) hb) (below_step sU_ hb) ?_; clear BK233 HB; intro BK233 HB; clear hb))
   go_meet
   case rel => exact ⟨_, (!t235), gb_, H', ⟨by first | omega | exact Nat.le_refl _⟩, ⟨by (with_reducible repeat (first | refine blk_drewN ?_ _ | refine blk_drew ?_ | refine blk_alloc ?_ _)); exact BK233.out⟩, ⟨sU_⟩⟩
  ·replace c6 := Bool.eq_false_iff.mpr c6
   subst c6
   rw [if_neg (show ¬ (false = true) by decide)] at H
   have H' := ak H
   clear H
   go_wp2_with (first | ((with_reducible refine gate_callee (f := 27) rfl ?_); refine gl_ (some 8) Tryd.func27 #[.slice A0 l0.length c0] ?_; (with_reducible refine (ratio_ValidNat.calls k _ _ l0 false _ ?side1 ?side2 A5.out).mono ?_); (case side1 => exact cU_ (C_below HR0.out HB.out)); (case side2 => exact HC0.out); rintro e w10 ⟨rfl, hb⟩; refine ⟨_, rfl, ?_⟩; refine nx2_ (blk_below (kU_ BK233.out) hb) (below_step sU_ hb) ?_; clear BK233 HB; intro BK233 HB; clear hb))
   go_meet
   case rel => exact ⟨_, (true), gb_, H', ⟨by first | omega | exact Nat.le_refl _⟩, ⟨by (with_reducible repeat (first | refine blk_drewN ?_ _ | refine blk_drew ?_ | refine blk_alloc ?_ _)); exact BK233.out⟩, ⟨sU_⟩⟩
 case rest =>
  clear HC3
  (try clear c1); (try clear c2); (try clear p2); (try clear c3); (try clear c6)
  obtain ⟨kq, x6_2, rfl, HA, HJ2, BK233, HB⟩ := hcut
  cases kq with
  | zero => exact absurd HA.out (by simp [ratio_New.j0])
  | succ kj2 =>
   have H := HA.out
   clear HA
   simp only [ratio_New.j0] at H
   by_cases c11 : x6_2 = true
   ·subst c11
    rw [if_pos rfl] at H
    simp only [Option.some.injEq, Prod.mk.injEq] at H
    obtain ⟨rfl, rfl, rfl⟩ := H
    have hcz12_0 := bc0_ BK233.out
    have hcz12_1 := bc1_ BK233.out
    have hfz12_0 := blk_frozen BK233.out 0
    have hfz12_1 := blk_frozen BK233.out 1
    go_wp2
    refine bodyPost_ret (results_ct rfl _ _ gb233 29 #[.slice none 0 0, .slice none 0 0] (0, 0) _ rfl kp_ Tryd.underlying29 rfl (by kernel_rfl)) rfl ?_
    exact ⟨_, _, eW_, Kd.V_nil _ _ _ _ _, Kd.V_nil _ _ _ _ _, sU_⟩
   ·replace c11 := Bool.eq_false_iff.mpr c11
    subst c11
    rw [if_neg (show ¬ (false = true) by decide)] at H
    by_cases c13 : (l1.length : Int) = 0
    ·rw [if_pos c13] at H
     have c13b0 := beq_iff_eq.mpr c13
     have c13b1 := bne_eq_false_iff_eq.mpr c13
     clear c13
     simp only [Option.some.injEq, Prod.mk.injEq] at H
     obtain ⟨rfl, rfl, rfl⟩ := H
     have hcz14_0 := bc0_ BK233.out
     have hcz14_1 := bc1_ BK233.out
     have hfz14_0 := blk_frozen BK233.out 0
     have hfz14_1 := blk_frozen BK233.out 1
     go_wp2
     refine bodyPost_ret (results_ct rfl _ _ gb233 29 #[.slice none 0 0, .slice none 0 0] (0, 0) _ rfl kp_ Tryd.underlying29 rfl (by kernel_rfl)) rfl ?_
     exact ⟨_, _, eW_, Kd.V_nil _ _ _ _ _, Kd.V_nil _ _ _ _ _, sU_⟩
    ·rw [if_neg c13] at H
     have c13b0 := beq_eq_false_iff_ne.mpr c13
     have c13b1 := bne_iff_ne.mpr c13
     have c13b2 : ¬ (l1 = []) := fun h_ => c13 (by rw [h_]; rfl)
     revert H
     refine bd3_ fun t236 t239 t242 A15 H => ?_
     try dsimp only at H
     simp only [Option.some.injEq, Prod.mk.injEq] at H
     obtain ⟨rfl, rfl, rfl⟩ := H
     go_wp2_with (first | ((with_reducible refine gate_callee (f := 77) rfl ?_); refine gl_ (some 23) Tryd.func77 #[.slice A0 l0.length c0, .slice A1 l1.length c1] ?_; (with_reducible refine (ratio_lowest.calls kj2 _ _ l0 _ _ l1 t236 t239 t242 _ ?side1 ?side2 ?side3 ?side4 A15.out).mono ?_); (case side1 => exact cU_ (C_below HR0.out HB.out)); (case side2 => exact HC0.out); (case side3 => exact cU_ (C_below HR1.out HB.out)); (case side4 => exact HC1.out); rintro e w16 ⟨v237, v240, rfl, ho0, ho1, hb⟩; refine ⟨_, rfl, ?_⟩; refine nx4_ (V_lower (V_mono (ok' := fun k_ => (w.heap.size ≤ k_) ∧ k_ ≠ gb233) ho0 (fun k_ hk_ => ⟨(Nat.le_trans (below_size sU_) hk_), (freshB (kU_ BK233.out) k_ hk_)⟩)) (below_size sU_)) (V_lower (V_mono (ok' := fun k_ => (w.heap.size ≤ k_) ∧ k_ ≠ gb233) ho1 (fun k_ hk_ => ⟨(Nat.le_trans (below_size sU_) hk_), (freshB (kU_ BK233.out) k_ hk_)⟩)) (below_size sU_)) (blk_below (kU_ BK233.out) hb) (below_step sU_ hb) ?_; clear BK233 HB; intro HO238 HO241 BK233 HB; clear hb ho0 ho1; obtain ⟨Ao17, co17, eo17⟩ := V_slice HO238.out; subst eo17; have hcz18_0 := bc0_ BK233.out; have hcz18_1 := bc1_ BK233.out; have hfz18_0 := blk_frozen BK233.out 0; have hfz18_1 := blk_frozen BK233.out 1; obtain ⟨Ao19, co19, eo19⟩ := V_slice HO241.out; subst eo19))
     refine bodyPost_ret (results_ct rfl _ _ gb233 29 #[.slice Ao17 t236.length co17, .slice Ao19 t239.length co19] (0, 0) _ rfl kp_ Tryd.underlying29 rfl (by kernel_rfl)) rfl ?_
     exact ⟨_, _, eW_, by (with_reducible repeat (first | apply Kd.V_alloc | apply Kd.V_drewN | apply V_drew)); exact V_mono (V_far (p := ⟨gb233, 1, none⟩) (V_far (p := ⟨gb233, 0, none⟩) (V_mono HO238.out (fun k_ hk => (⟨hk, hk.2⟩ : _ ∧ k_ ≠ gb233))) (fun _ hk => hk.2) (.slice Ao17 t236.length co17)) (fun _ hk => hk.2) (.slice Ao19 t239.length co19)) (fun _ hk => hk.1.1), by (with_reducible repeat (first | apply Kd.V_alloc | apply Kd.V_drewN | apply V_drew)); exact V_mono (V_far (p := ⟨gb233, 1, none⟩) (V_far (p := ⟨gb233, 0, none⟩) (V_mono HO241.out (fun k_ hk => (⟨hk, hk.2⟩ : _ ∧ k_ ≠ gb233))) (fun _ hk => hk.2) (.slice Ao17 t236.length co17)) (fun _ hk => hk.2) (.slice Ao19 t239.length co19)) (fun _ hk => hk.1.1), sU_⟩















def strings_Split.f (a0 a1 : ByteArray) : Option (List ByteArray) := if a1 = (⟨#[47]⟩ : ByteArray) ∧ a0.size < 4294967281 then some (Go.Lib.splitB a1 0 (Go.Lib.countB a0 a1) a0) else none
theorem strings_Split.calls (a0 a1 : ByteArray) (r : List ByteArray) (w : World) (h : strings_Split.f a0 a1 = some r) :
  Calls Tryd.prog 65 #[.string a0, .string a1] w fun e w' => ∃ v0_ : Value, e = .returned (v0_) ∧ Kd.R Kd.string 9 w' w.heap.size (fun _ => True) v0_ r ∧ Below w.heap.size w w' := by
 unfold strings_Split.f at h
 obtain ⟨⟨rfl, hs⟩, h⟩ := it_ h
 have h1 : 1 ≤ (⟨#[47]⟩ : ByteArray).size := Nat.le_refl _
 have hle := Go.Lib.countB_le ⟨#[47]⟩ h1 a0.size a0 (Nat.le_refl _)
 have hlen := Go.Lib.splitB_all ⟨#[47]⟩ h1 0 _ a0 rfl
 have hr := Option.some.inj h
 rw [hr] at hlen
 refine (split_one_ (P := Tryd.prog) lays146 (by kernel_rfl) a0 47 w hs).mono ?_
 rintro e w' ⟨rfl, rfl⟩
 rw [hr]
 have hsz : (⟨#[47]⟩ : ByteArray).size = 1 := rfl
 refine ⟨_, rfl, Kd.R_of_own (enc := Value.string) ?_ (fun _ _ => trivial), below_alloc (Below.refl _ _) _⟩
 rw [← hlen]
 have he : encs Value.string r = r.map Value.string := rfl
 refine ⟨by rw [he]; simp, Or.inr ⟨w.heap.size, r.length, (r.map Value.string).toArray, rfl, Nat.le_refl _, ?_, Nat.le_refl _, ?_, by simp, by rw [he]; simp only [Nat.mul_one]; exact List.take_of_length_le (by simp)⟩⟩
 ·show (w.heap.push _)[w.heap.size]? = _
  simp
  rfl
 ·rw [hlen]
  unfold maxLen
  omega




theorem ratio_Read_1.calls (k : Nat) (a0 : ByteArray) (r : Bool) (w : World) (h : ratio_natural.f k a0 = some r) :
  Calls Tryd.prog 67 #[.string a0] w fun e w' => e = .returned (.bool (!r)) ∧ Drawn0 w w' := by
 have A5 := ak h
 clear h
 go_enter Tryd.func67, Tryd.ntmps67
 go_wp2_with (first | ((with_reducible refine gate_callee (f := 57) rfl ?_); refine gl_ (some 4) Tryd.func57 #[.string a0] ?_; (with_reducible refine (ratio_natural.calls k a0 r _ A5.out).mono ?_); rintro e w' ⟨rfl, ⟨nd, rfl⟩⟩; refine ⟨_, rfl, ?_⟩))
 go_ret
 exact ⟨rfl, by repeat (first | exact Drawn0.refl _ | apply Drawn0.step)⟩
def slices_IndexFunc_string_string.l0 : Nat → List ByteArray → Int → Int → Option (Int)
 | 0, _, _, _ => none
 | k + 1, x0, x7, x8 => if x8 < x7 then (if 0 ≤ x8 then (if x8 < (x0.length : Int) then ((ratio_natural.f k (rdOf ByteArray.empty x0 x8)).bind fun t296 => (if t296 = true then (slices_IndexFunc_string_string.l0 k x0 x7 (wrap64 (x8 + 1))) else (some x8))) else (none)) else (none)) else (some (-1))
def slices_IndexFunc_string_string.f (k : Nat) (l0 : List ByteArray) : Option (Int) := slices_IndexFunc_string_string.l0 k l0 (l0.length : Int) 0
theorem slices_IndexFunc_string_string.mono_l : ∀ k, (∀ y0 y1 y2, LeO (slices_IndexFunc_string_string.l0 k y0 y1 y2) (slices_IndexFunc_string_string.l0 (k + 1) y0 y1 y2))
 | 0 => fun _ _ _ r h => by simp [slices_IndexFunc_string_string.l0] at h
 | k + 1 => by
  have ih0 := slices_IndexFunc_string_string.mono_l k
  ·intro y0 y1 y2
   unfold slices_IndexFunc_string_string.l0
   with_reducible repeat' first | apply ih0 | apply ratio_natural.mono | exact LeO.refl _ | exact LeO.none _ | refine LeO.ite ?_ ?_ | refine LeO.bind ?_ (fun _ => ?_)
theorem slices_IndexFunc_string_string.mono : ∀ a0 k, LeO (slices_IndexFunc_string_string.f k a0) (slices_IndexFunc_string_string.f (k + 1) a0) := by
 intro a0 k
 have ih0 := slices_IndexFunc_string_string.mono_l k
 unfold slices_IndexFunc_string_string.f
 with_reducible repeat' first | apply ih0 | apply ratio_natural.mono | exact LeO.refl _ | exact LeO.none _ | refine LeO.ite ?_ ?_ | refine LeO.bind ?_ (fun _ => ?_)
set_option maxHeartbeats 8000000 in
set_option maxRecDepth 100000 in
theorem slices_IndexFunc_string_string.calls (k : Nat) (A0 : Option Addr) (c0 : Nat) (l0 : List ByteArray) (r : Int) (w : World) (hr0 : Kd.C Kd.string w A0 l0.length l0) (hc0 : l0.length ≤ c0) (h : slices_IndexFunc_string_string.f k l0 = some r) :
  Calls Tryd.prog 87 #[.slice A0 l0.length c0, .func (Fn.func 67) #[] #[]] w fun e w' => e = .returned (.int .i64 r) ∧ Drawn0 w w' := by
 have HR0 := ak hr0
 have HC0 := ak hc0
 clear hr0 hc0
 have H : (slices_IndexFunc_string_string.l0 k l0 (l0.length : Int) 0) = some r := h
 clear h
 have H' := ak H
 clear H
 go_enter Tryd.func87, Tryd.ntmps87
 go_wp2
 go_loopg [8] k (fun kq v8 w' => ∃ (x8_1 : Int), v8 = .int .i64 x8_1 ∧ Aside0 (slices_IndexFunc_string_string.l0 kq l0 (l0.length : Int) x8_1 = some r) ∧ Aside0 (kq ≤ k) ∧ Drawn0 w w')
 case atStart => exact ⟨(0), gb_, H', ⟨Nat.le_refl _⟩, by repeat (first | exact Drawn0.refl _ | apply Drawn0.step)⟩
 case round =>
  clear H'
  obtain ⟨x8_1, rfl, HA, HK1, ⟨m1, rfl⟩⟩ := hrel
  cases gk with
  | zero => exact absurd HA.out (by simp [slices_IndexFunc_string_string.l0])
  | succ k1 =>
   have H := HA.out
   clear HA
   simp only [slices_IndexFunc_string_string.l0] at H
   by_cases c2 : x8_1 < (l0.length : Int)
   ·rw [if_pos c2] at H
    have c2b0 := decide_eq_true c2
    clear c2
    obtain ⟨c3, H⟩ : (0 ≤ x8_1) ∧ _ := it_ H
    have c3b0 := decide_eq_true c3
    clear c3
    obtain ⟨c4, H⟩ : (x8_1 < (l0.length : Int)) ∧ _ := it_ H
    have c4b0 := decide_eq_true c4
    clear c4
    revert H
    refine bd_ fun t296 A5 H => ?_
    by_cases c6 : t296 = true
    ·subst c6
     rw [if_pos rfl] at H
     have H' := ak H
     clear H
     have p295 : 0 ≤ (x8_1 : Int) := od_
     have q295 : x8_1 < (l0.length : Int) := od_
     obtain ⟨ad295, e295, hx295_0⟩ := Kd.at_string HR0.out x8_1 p295 q295
     cases e295
     replace p295 := eq_true p295
     replace q295 := eq_true q295
     go_wp2_with (first | ((with_reducible refine gate_dst (N := 16) rfl ?_); refine gclo_ (some 16) rfl rfl Tryd.func67 (by kernel_rfl) rfl #[.string (rdOf ByteArray.empty l0 x8_1)] rfl rfl (by simp only [List.map_toArray, List.map_cons, List.map_nil, List.append_toArray, List.cons_append, List.nil_append]; rfl) ?_; (refine (ratio_Read_1.calls k1 (rdOf ByteArray.empty l0 x8_1) true _ A5.out).mono ?_); rintro e w' ⟨rfl, ⟨nd, rfl⟩⟩; refine ⟨_, rfl, ?_⟩))
     go_roundg k1
     case measure => have := HK1.out; omega
     case rel => exact ⟨(wrap64 (x8_1 + 1)), gb_, H', ⟨by have := HK1.out; omega⟩, by repeat (first | exact Drawn0.refl _ | apply Drawn0.step)⟩
    ·replace c6 := Bool.eq_false_iff.mpr c6
     subst c6
     rw [if_neg (show ¬ (false = true) by decide)] at H
     obtain rfl := Option.some.inj H
     have p295 : 0 ≤ (x8_1 : Int) := od_
     have q295 : x8_1 < (l0.length : Int) := od_
     obtain ⟨ad295, e295, hx295_0⟩ := Kd.at_string HR0.out x8_1 p295 q295
     cases e295
     replace p295 := eq_true p295
     replace q295 := eq_true q295
     go_wp2_with (first | ((with_reducible refine gate_dst (N := 16) rfl ?_); refine gclo_ (some 16) rfl rfl Tryd.func67 (by kernel_rfl) rfl #[.string (rdOf ByteArray.empty l0 x8_1)] rfl rfl (by simp only [List.map_toArray, List.map_cons, List.map_nil, List.append_toArray, List.cons_append, List.nil_append]; rfl) ?_; (refine (ratio_Read_1.calls k1 (rdOf ByteArray.empty l0 x8_1) false _ A5.out).mono ?_); rintro e w' ⟨rfl, ⟨nd, rfl⟩⟩; refine ⟨_, rfl, ?_⟩))
     go_ret
     exact ⟨by first | rfl | (simp; done) | (simp [*]; done), by repeat (first | exact Drawn0.refl _ | apply Drawn0.step)⟩
   ·rw [if_neg c2] at H
    have c2b0 := decide_eq_false c2
    clear c2
    obtain rfl := Option.some.inj H
    go_wp2
    go_ret
    exact ⟨by first | rfl | (simp; done) | (simp [*]; done), by repeat (first | exact Drawn0.refl _ | apply Drawn0.step)⟩

def slices_ContainsFunc_string_string.f (k : Nat) (l0 : List ByteArray) : Option (Bool) := (slices_IndexFunc_string_string.f k l0).bind fun t297 => (some (decide (t297 ≥ 0)))
theorem slices_ContainsFunc_string_string.mono : ∀ a0 k, LeO (slices_ContainsFunc_string_string.f k a0) (slices_ContainsFunc_string_string.f (k + 1) a0) := by
 intro a0 k
 unfold slices_ContainsFunc_string_string.f
 with_reducible repeat' first | apply slices_IndexFunc_string_string.mono | exact LeO.refl _ | exact LeO.none _ | refine LeO.ite ?_ ?_ | refine LeO.bind ?_ (fun _ => ?_)
set_option maxHeartbeats 8000000 in
set_option maxRecDepth 100000 in
theorem slices_ContainsFunc_string_string.calls (k : Nat) (A0 : Option Addr) (c0 : Nat) (l0 : List ByteArray) (r : Bool) (w : World) (hr0 : Kd.C Kd.string w A0 l0.length l0) (hc0 : l0.length ≤ c0) (h : slices_ContainsFunc_string_string.f k l0 = some r) :
  Calls Tryd.prog 66 #[.slice A0 l0.length c0, .func (Fn.func 67) #[] #[]] w fun e w' => e = .returned (.bool r) ∧ Drawn0 w w' := by
 have HR0 := ak hr0
 have HC0 := ak hc0
 clear hr0 hc0
 have H : ((slices_IndexFunc_string_string.f k l0).bind fun t297 => (some (decide (t297 ≥ 0)))) = some r := h
 clear h
 revert H
 refine bd_ fun t297 A2 H => ?_
 obtain rfl := Option.some.inj H
 go_enter Tryd.func66, Tryd.ntmps66
 go_wp2_with (first | ((with_reducible refine gate_callee (f := 87) rfl ?_); refine gl_ (some 7) Tryd.func87 #[.slice A0 l0.length c0, .func (Fn.func 67) #[] #[]] ?_; (with_reducible refine (slices_IndexFunc_string_string.calls k _ _ l0 t297 _ ?side1 ?side2 A2.out).mono ?_); (case side1 => exact cU_ HR0.out); (case side2 => exact HC0.out); rintro e w' ⟨rfl, ⟨nd, rfl⟩⟩; refine ⟨_, rfl, ?_⟩))
 go_ret
 exact ⟨by first | rfl | (simp; done) | (simp [*]; done), by repeat (first | exact Drawn0.refl _ | apply Drawn0.step)⟩


def ratio_Read.j0 : Nat → List ByteArray → Bool → Option (List Int × List Int × Int)
 | 0, _, _ => none
 | k + 1, x4, x16 => if x16 = true then (some (([] : List Int), ([] : List Int), 4)) else (if 0 < (x4.length : Int) then ((ratio_Parse.f k (rdOf ByteArray.empty x4 0)).bind fun bt304 => (if bt304.2 = 0 then (if 1 < (x4.length : Int) then ((ratio_Parse.f k (rdOf ByteArray.empty x4 1)).bind fun bt309 => (if bt309.2 = 0 then ((ratio_New.f k bt304.1 bt309.1).bind fun bt313 => (some (bt313.1, bt313.2.1, bt313.2.2))) else (some (([] : List Int), ([] : List Int), bt309.2)))) else (none)) else (some (([] : List Int), ([] : List Int), bt304.2)))) else (none))
def ratio_Read.f (k : Nat) (a0 : ByteArray) : Option (List Int × List Int × Int) := (strings_Split.f a0 (⟨#[47]⟩ : ByteArray)).bind fun t299 => (if (t299.length : Int) = 2 then ((slices_ContainsFunc_string_string.f k t299).bind fun t302 => (ratio_Read.j0 k t299 t302)) else (ratio_Read.j0 k t299 true))
theorem ratio_Read.mono_l : ∀ k, (∀ y0 y1, LeO (ratio_Read.j0 k y0 y1) (ratio_Read.j0 (k + 1) y0 y1))
 | 0 => fun _ _ r h => by simp [ratio_Read.j0] at h
 | k + 1 => by
  have ih0 := ratio_Read.mono_l k
  ·intro y0 y1
   unfold ratio_Read.j0
   with_reducible repeat' first | apply ih0 | apply ratio_New.mono | apply ratio_Parse.mono | apply slices_ContainsFunc_string_string.mono | exact LeO.refl _ | exact LeO.none _ | refine LeO.ite ?_ ?_ | refine LeO.bind ?_ (fun _ => ?_)
theorem ratio_Read.mono : ∀ a0 k, LeO (ratio_Read.f k a0) (ratio_Read.f (k + 1) a0) := by
 intro a0 k
 have ih0 := ratio_Read.mono_l k
 unfold ratio_Read.f
 with_reducible repeat' first | apply ih0 | apply ratio_New.mono | apply ratio_Parse.mono | apply slices_ContainsFunc_string_string.mono | exact LeO.refl _ | exact LeO.none _ | refine LeO.ite ?_ ?_ | refine LeO.bind ?_ (fun _ => ?_)
set_option maxHeartbeats 8000000 in
set_option maxRecDepth 100000 in
theorem ratio_Read.calls (k : Nat) (a0 : ByteArray) (r1 : List Int) (r2 : List Int) (r3 : Int) (w : World) (h : ratio_Read.f k a0 = some (r1, r2, r3)) :
  Calls Tryd.prog 13 #[.string a0] w fun e w' => ∃ v0_ v1_ : Value, e = .returned (.tuple #[.agg #[v0_, v1_], .int .i64 r3]) ∧ Kd.V (Kd.int .u32) 44 w' w.heap.size (fun k_ => (w.heap.size ≤ k_)) v0_ r1 ∧ Kd.V (Kd.int .u32) 44 w' w.heap.size (fun k_ => (w.heap.size ≤ k_)) v1_ r2 ∧ Below w.heap.size w w' := by
 have hu29 := Tryd.underlying29
 have HB := ak (Below.refl w.heap.size w)
 have H := h
 clear h
 unfold ratio_Read.f at H
 revert H
 refine bd_ fun t299 A2 H => ?_
 have HC3 := ak H
 clear H
 go_enter Tryd.func13, Tryd.ntmps13
 go_upto_region 2 with (first | ((with_reducible refine gate_dst (N := 2) rfl ?_); refine bx_ 2 29 #[.slice none 0 0, .slice none 0 0] ?_; intro gb298 hg w4 hbox hb; refine nx4_ (below_step (bU_ HB.out) hb) (hbox) ((hs_ hg (below_size (bU_ HB.out)))) ((hs_ hg (below_size (bU_ HB.out)))) ?_; clear HB; intro HB BK298 GW298 GE298; clear hb hbox hg) | ((with_reducible refine gate_callee (f := 65) rfl ?_); refine gl_ (some 9) Tryd.func65 #[.string a0, .string (⟨#[47]⟩ : ByteArray)] ?_; (with_reducible refine (strings_Split.calls a0 (⟨#[47]⟩ : ByteArray) t299 _ A2.out).mono ?_); rintro e w5 ⟨v300, rfl, ho0, hb⟩; refine ⟨_, rfl, ?_⟩; refine nx3_ (R_lower (R_newM (M := fun k_ => (w.heap.size ≤ k_)) ho0 (below_size sU_) (fun k_ h_ => h_)) (below_size sU_)) (blk_below (kU_ BK298.out) hb) (below_step sU_ hb) ?_; clear BK298 HB; intro HO301 BK298 HB; clear hb ho0))
 (try simp only [Act.put, s1_, s2_, s3_])
 go_cut [16] (fun v16 wc => ∃ (kq : Nat) (x16_2 : Bool), v16 = .bool x16_2 ∧ Aside0 (ratio_Read.j0 kq t299 x16_2 = some (r1, r2, r3)) ∧ Aside0 (kq ≤ k) ∧ Aside0 (Kd.R Kd.string 9 wc w.heap.size (fun k_ => (w.heap.size ≤ k_)) v300 t299) ∧ Aside0 (wc.heap[gb298]? = some (.cells #[(.slice none 0 0), (.slice none 0 0)] 29 (0, 0))) ∧ Aside0 (Below w.heap.size w wc))
 case first =>
  have H := HC3.out
  clear HC3
  by_cases c6 : (t299.length : Int) = 2
  ·rw [if_pos c6] at H
   have c6b0 := beq_iff_eq.mpr c6
   have c6b1 := bne_eq_false_iff_eq.mpr c6
   clear c6
   (first | rw [c6b0] | (simp only [i64_w, i32_w]; rw [c6b0]) | rw [c6b1] | skip)
   revert H
   refine bd_ fun t302 A7 H => ?_
   have H' := ak H
   clear H
   obtain ⟨Ao8, co8, eo8⟩ := R_slice HO301.out
   subst eo8
   go_wp2_with (first | (go_at_call 66; (with_reducible refine (slices_ContainsFunc_string_string.calls k _ _ t299 t302 _ ?side1 ?side2 A7.out).mono ?_); (case side1 => exact cU_ ((R_reads' HO301.out).2.2)); (case side2 => exact (R_reads' HO301.out).2.1); rintro e w' ⟨rfl, ⟨nd, rfl⟩⟩))
   go_meet
   case rel => exact ⟨_, (t302), gb_, H', ⟨by first | omega | exact Nat.le_refl _⟩, ⟨R_mono (rU_ HO301.out) (fun _ hk => hk.1)⟩, ⟨by (with_reducible repeat (first | refine blk_drewN ?_ _ | refine blk_drew ?_ | refine blk_alloc ?_ _)); exact BK298.out⟩, ⟨sU_⟩⟩
  ·rw [if_neg c6] at H
   have c6b0 := beq_eq_false_iff_ne.mpr c6
   have c6b1 := bne_iff_ne.mpr c6
   (first | rw [c6b0] | (simp only [i64_w, i32_w]; rw [c6b0]) | rw [c6b1] | skip)
   have H' := ak H
   clear H
   obtain ⟨Ao9, co9, eo9⟩ := R_slice HO301.out
   subst eo9
   go_wp2
   go_meet
   case rel => exact ⟨_, (true), gb_, H', ⟨by first | omega | exact Nat.le_refl _⟩, ⟨R_mono (rU_ HO301.out) (fun _ hk => hk.1)⟩, ⟨by (with_reducible repeat (first | refine blk_drewN ?_ _ | refine blk_drew ?_ | refine blk_alloc ?_ _)); exact BK298.out⟩, ⟨sU_⟩⟩
 case rest =>
  clear HC3
  (try clear c1); (try clear p2); (try clear c6); (try clear c6b0); (try clear c6b1)
  obtain ⟨kq, x16_2, rfl, HA, HJ2, HO_4, BK298, HB⟩ := hcut
  cases kq with
  | zero => exact absurd HA.out (by simp [ratio_Read.j0])
  | succ kj2 =>
   have H := HA.out
   clear HA
   simp only [ratio_Read.j0] at H
   by_cases c10 : x16_2 = true
   ·subst c10
    rw [if_pos rfl] at H
    simp only [Option.some.injEq, Prod.mk.injEq] at H
    obtain ⟨rfl, rfl, rfl⟩ := H
    have hcz11_0 := bc0_ BK298.out
    have hcz11_1 := bc1_ BK298.out
    have hfz11_0 := blk_frozen BK298.out 0
    have hfz11_1 := blk_frozen BK298.out 1
    go_wp2
    refine bodyPost_ret (results_ct rfl _ _ gb298 29 #[.slice none 0 0, .slice none 0 0] (0, 0) _ rfl kp_ Tryd.underlying29 rfl (by kernel_rfl)) rfl ?_
    exact ⟨_, _, eW_, Kd.V_nil _ _ _ _ _, Kd.V_nil _ _ _ _ _, sU_⟩
   ·replace c10 := Bool.eq_false_iff.mpr c10
    subst c10
    rw [if_neg (show ¬ (false = true) by decide)] at H
    obtain ⟨c12, H⟩ : (0 < (t299.length : Int)) ∧ _ := it_ H
    have c12b0 := decide_eq_true c12
    have c12b1 : decide (0 < t299.length) = true := decide_eq_true (by omega)
    clear c12
    revert H
    refine bd2_ fun t304 t307 A13 H => ?_
    try dsimp only at H
    by_cases c14 : t307 = 0
    ·rw [if_pos c14] at H
     have c14b0 := beq_iff_eq.mpr c14
     have c14b1 := bne_eq_false_iff_eq.mpr c14
     clear c14
     obtain ⟨c15, H⟩ : (1 < (t299.length : Int)) ∧ _ := it_ H
     have c15b0 := decide_eq_true c15
     have c15b1 : decide (1 < t299.length) = true := decide_eq_true (by omega)
     clear c15
     revert H
     refine bd2_ fun t309 t312 A16 H => ?_
     try dsimp only at H
     by_cases c17 : t312 = 0
     ·rw [if_pos c17] at H
      have c17b0 := beq_iff_eq.mpr c17
      have c17b1 := bne_eq_false_iff_eq.mpr c17
      clear c17
      revert H
      refine bd3_ fun t313 t316 t319 A18 H => ?_
      try dsimp only at H
      simp only [Option.some.injEq, Prod.mk.injEq] at H
      obtain ⟨rfl, rfl, rfl⟩ := H
      obtain ⟨Ao19, co19, eo19⟩ := R_slice HO_4.out
      subst eo19
      have p303 : 0 ≤ (0 : Int) := (by omega)
      have q303 : 0 < (t299.length : Int) := od_
      obtain ⟨ad303, e303, hx303_0⟩ := Kd.at_string (R_reads' HO_4.out).2.2 0 p303 q303
      cases e303
      have qi303 : (0 < t299.length) = True := eq_true (by omega)
      (try rw [show ((0 : Int)).toNat = 0 from rfl] at hx303_0)
      (try rw [Addr.add_zero'] at hx303_0)
      replace p303 := eq_true p303
      replace q303 := eq_true q303
      go_wp2_with (first | ((with_reducible refine gate_callee (f := 11) rfl ?_); refine gl_ (some 22) Tryd.func11 #[.string (rdOf ByteArray.empty t299 0)] ?_; (with_reducible refine (ratio_Parse.calls kj2 (rdOf ByteArray.empty t299 0) t304 t307 _ A13.out).mono ?_); rintro e w20 ⟨v305, rfl, ho0, hb⟩; refine ⟨_, rfl, ?_⟩; refine nx4_ (R_below (rU_ HO_4.out) hb) (V_lower (V_mono (ok' := fun k_ => (w.heap.size ≤ k_) ∧ some k_ ≠ (.slice (some ad303) t299.length co19 : Value).ownBlock ∧ k_ ≠ gb298) ho0 (fun k_ hk_ => ⟨(Nat.le_trans (below_size sU_) hk_), (fresh' (R_lt (rU_ HO_4.out)) k_ hk_), (freshB (kU_ BK298.out) k_ hk_)⟩)) (below_size sU_)) (blk_below (kU_ BK298.out) hb) (below_step sU_ hb) ?_; clear HO_4 BK298 HB; intro HO_4 HO306 BK298 HB; clear hb ho0; have p308 : 0 ≤ (1 : Int) := (by omega); have q308 : 1 < (t299.length : Int) := od_; obtain ⟨ad308, e308, hx308_0⟩ := Kd.at_string (R_reads' HO_4.out).2.2 1 p308 q308; obtain rfl : ad303 = ad308 := (by injection e308); (try simp only [show (1 : Int).toNat = 1 from rfl, Nat.reduceMul, Nat.reduceEqDiff, Go.Addr.add, ↓reduceIte] at hx308_0); have qi308 : (1 < t299.length) = True := eq_true (by omega); (try rw [show ((1 : Int)).toNat = 1 from rfl] at hx308_0); replace p308 := eq_true p308; replace q308 := eq_true q308) | ((with_reducible refine gate_callee (f := 11) rfl ?_); refine gl_ (some 33) Tryd.func11 #[.string (rdOf ByteArray.empty t299 1)] ?_; (with_reducible refine (ratio_Parse.calls kj2 (rdOf ByteArray.empty t299 1) t309 t312 _ A16.out).mono ?_); rintro e w21 ⟨v310, rfl, ho0, hb⟩; refine ⟨_, rfl, ?_⟩; refine nx5_ (R_below (rU_ HO_4.out) hb) (V_below (vU_ HO306.out) hb) (V_lower (V_mono (ok' := fun k_ => (w.heap.size ≤ k_) ∧ some k_ ≠ (.slice (some ad303) t299.length co19 : Value).ownBlock ∧ k_ ≠ gb298) ho0 (fun k_ hk_ => ⟨(Nat.le_trans (below_size sU_) hk_), (fresh' (R_lt (rU_ HO_4.out)) k_ hk_), (freshB (kU_ BK298.out) k_ hk_)⟩)) (below_size sU_)) (blk_below (kU_ BK298.out) hb) (below_step sU_ hb) ?_; clear HO_4 HO306 BK298 HB; intro HO_4 HO306 HO311 BK298 HB; clear hb ho0; obtain ⟨Ao22, co22, eo22⟩ := V_slice HO306.out; subst eo22; obtain ⟨Ao23, co23, eo23⟩ := V_slice HO311.out; subst eo23) | ((with_reducible refine gate_callee (f := 32) rfl ?_); refine gl_ (some 42) Tryd.func32 #[.slice Ao22 t304.length co22, .slice Ao23 t309.length co23] ?_; (with_reducible refine (ratio_New.calls kj2 _ _ t304 _ _ t309 t313 t316 t319 _ ?side1 ?side2 ?side3 ?side4 A18.out).mono ?_); (case side1 => exact cU_ ((V_reads' HO306.out).2.2)); (case side2 => exact (V_reads' HO306.out).2.1); (case side3 => exact cU_ ((V_reads' HO311.out).2.2)); (case side4 => exact (V_reads' HO311.out).2.1); rintro e w24 ⟨v314, v317, rfl, ho0, ho1, hb⟩; refine ⟨_, rfl, ?_⟩; refine nx7_ (R_below (rU_ HO_4.out) hb) (V_below (vU_ HO306.out) hb) (V_below (vU_ HO311.out) hb) (V_lower (V_mono (ok' := fun k_ => (w.heap.size ≤ k_) ∧ some k_ ≠ (.slice (some ad303) t299.length co19 : Value).ownBlock ∧ k_ ≠ gb298) ho0 (fun k_ hk_ => ⟨(Nat.le_trans (below_size sU_) hk_), (fresh' (R_lt (rU_ HO_4.out)) k_ hk_), (freshB (kU_ BK298.out) k_ hk_)⟩)) (below_size sU_)) (V_lower (V_mono (ok' := fun k_ => (w.heap.size ≤ k_) ∧ some k_ ≠ (.slice (some ad303) t299.length co19 : Value).ownBlock ∧ k_ ≠ gb298) ho1 (fun k_ hk_ => ⟨(Nat.le_trans (below_size sU_) hk_), (fresh' (R_lt (rU_ HO_4.out)) k_ hk_), (freshB (kU_ BK298.out) k_ hk_)⟩)) (below_size sU_)) (blk_below (kU_ BK298.out) hb) (below_step sU_ hb) ?_; clear HO_4 HO306 HO311 BK298 HB; intro HO_4 HO306 HO311 HO315 HO318 BK298 HB; clear hb ho0 ho1; obtain ⟨Ao25, co25, eo25⟩ := V_slice HO315.out; subst eo25; have hcz26_0 := bc0_ BK298.out; have hcz26_1 := bc1_ BK298.out; have hfz26_0 := blk_frozen BK298.out 0; have hfz26_1 := blk_frozen BK298.out 1; obtain ⟨Ao27, co27, eo27⟩ := V_slice HO318.out; subst eo27))
      refine bodyPost_ret (results_ct rfl _ _ gb298 29 #[.slice Ao25 t313.length co25, .slice Ao27 t316.length co27] (0, 0) _ rfl kp_ Tryd.underlying29 rfl (by kernel_rfl)) rfl ?_
      exact ⟨_, _, eW_, by (with_reducible repeat (first | apply Kd.V_alloc | apply Kd.V_drewN | apply V_drew)); exact V_mono (V_far (p := ⟨gb298, 1, none⟩) (V_far (p := ⟨gb298, 0, none⟩) (V_mono HO315.out (fun k_ hk => (⟨hk, hk.2.2⟩ : _ ∧ k_ ≠ gb298))) (fun _ hk => hk.2) (.slice Ao25 t313.length co25)) (fun _ hk => hk.2) (.slice Ao27 t316.length co27)) (fun _ hk => hk.1.1), by (with_reducible repeat (first | apply Kd.V_alloc | apply Kd.V_drewN | apply V_drew)); exact V_mono (V_far (p := ⟨gb298, 1, none⟩) (V_far (p := ⟨gb298, 0, none⟩) (V_mono HO318.out (fun k_ hk => (⟨hk, hk.2.2⟩ : _ ∧ k_ ≠ gb298))) (fun _ hk => hk.2) (.slice Ao25 t313.length co25)) (fun _ hk => hk.2) (.slice Ao27 t316.length co27)) (fun _ hk => hk.1.1), sU_⟩
     ·rw [if_neg c17] at H
      have c17b0 := beq_eq_false_iff_ne.mpr c17
      have c17b1 := bne_iff_ne.mpr c17
      simp only [Option.some.injEq, Prod.mk.injEq] at H
      obtain ⟨rfl, rfl, rfl⟩ := H
      obtain ⟨Ao28, co28, eo28⟩ := R_slice HO_4.out
      subst eo28
      have p303 : 0 ≤ (0 : Int) := (by omega)
      have q303 : 0 < (t299.length : Int) := od_
      obtain ⟨ad303, e303, hx303_0⟩ := Kd.at_string (R_reads' HO_4.out).2.2 0 p303 q303
      cases e303
      have qi303 : (0 < t299.length) = True := eq_true (by omega)
      (try rw [show ((0 : Int)).toNat = 0 from rfl] at hx303_0)
      (try rw [Addr.add_zero'] at hx303_0)
      replace p303 := eq_true p303
      replace q303 := eq_true q303
      go_wp2_with (first | ((with_reducible refine gate_callee (f := 11) rfl ?_); refine gl_ (some 22) Tryd.func11 #[.string (rdOf ByteArray.empty t299 0)] ?_; (with_reducible refine (ratio_Parse.calls kj2 (rdOf ByteArray.empty t299 0) t304 t307 _ A13.out).mono ?_); rintro e w29 ⟨v305, rfl, ho0, hb⟩; refine ⟨_, rfl, ?_⟩; refine nx4_ (R_below (rU_ HO_4.out) hb) (V_lower (V_mono (ok' := fun k_ => (w.heap.size ≤ k_) ∧ some k_ ≠ (.slice (some ad303) t299.length co28 : Value).ownBlock ∧ k_ ≠ gb298) ho0 (fun k_ hk_ => ⟨(Nat.le_trans (below_size sU_) hk_), (fresh' (R_lt (rU_ HO_4.out)) k_ hk_), (freshB (kU_ BK298.out) k_ hk_)⟩)) (below_size sU_)) (blk_below (kU_ BK298.out) hb) (below_step sU_ hb) ?_; clear HO_4 BK298 HB; intro HO_4 HO306 BK298 HB; clear hb ho0; have p308 : 0 ≤ (1 : Int) := (by omega); have q308 : 1 < (t299.length : Int) := od_; obtain ⟨ad308, e308, hx308_0⟩ := Kd.at_string (R_reads' HO_4.out).2.2 1 p308 q308; obtain rfl : ad303 = ad308 := (by injection e308); (try simp only [show (1 : Int).toNat = 1 from rfl, Nat.reduceMul, Nat.reduceEqDiff, Go.Addr.add, ↓reduceIte] at hx308_0); have qi308 : (1 < t299.length) = True := eq_true (by omega); (try rw [show ((1 : Int)).toNat = 1 from rfl] at hx308_0); replace p308 := eq_true p308; replace q308 := eq_true q308) | ((with_reducible refine gate_callee (f := 11) rfl ?_); refine gl_ (some 33) Tryd.func11 #[.string (rdOf ByteArray.empty t299 1)] ?_; (with_reducible refine (ratio_Parse.calls kj2 (rdOf ByteArray.empty t299 1) t309 t312 _ A16.out).mono ?_); rintro e w30 ⟨v310, rfl, ho0, hb⟩; refine ⟨_, rfl, ?_⟩; refine nx5_ (R_below (rU_ HO_4.out) hb) (V_below (vU_ HO306.out) hb) (V_lower (V_mono (ok' := fun k_ => (w.heap.size ≤ k_) ∧ some k_ ≠ (.slice (some ad303) t299.length co28 : Value).ownBlock ∧ k_ ≠ gb298) ho0 (fun k_ hk_ => ⟨(Nat.le_trans (below_size sU_) hk_), (fresh' (R_lt (rU_ HO_4.out)) k_ hk_), (freshB (kU_ BK298.out) k_ hk_)⟩)) (below_size sU_)) (blk_below (kU_ BK298.out) hb) (below_step sU_ hb) ?_; clear HO_4 HO306 BK298 HB; intro HO_4 HO306 HO311 BK298 HB; clear hb ho0; have hcz31_0 := bc0_ BK298.out; have hcz31_1 := bc1_ BK298.out; have hfz31_0 := blk_frozen BK298.out 0; have hfz31_1 := blk_frozen BK298.out 1))
      refine bodyPost_ret (results_ct rfl _ _ gb298 29 #[.slice none 0 0, .slice none 0 0] (0, 0) _ rfl kp_ Tryd.underlying29 rfl (by kernel_rfl)) rfl ?_
      exact ⟨_, _, eW_, Kd.V_nil _ _ _ _ _, Kd.V_nil _ _ _ _ _, sU_⟩
    ·rw [if_neg c14] at H
     have c14b0 := beq_eq_false_iff_ne.mpr c14
     have c14b1 := bne_iff_ne.mpr c14
     simp only [Option.some.injEq, Prod.mk.injEq] at H
     obtain ⟨rfl, rfl, rfl⟩ := H
     obtain ⟨Ao32, co32, eo32⟩ := R_slice HO_4.out
     subst eo32
     have p303 : 0 ≤ (0 : Int) := (by omega)
     have q303 : 0 < (t299.length : Int) := od_
     obtain ⟨ad303, e303, hx303_0⟩ := Kd.at_string (R_reads' HO_4.out).2.2 0 p303 q303
     cases e303
     have qi303 : (0 < t299.length) = True := eq_true (by omega)
     (try rw [show ((0 : Int)).toNat = 0 from rfl] at hx303_0)
     (try rw [Addr.add_zero'] at hx303_0)
     replace p303 := eq_true p303
     replace q303 := eq_true q303
     go_wp2_with (first | ((with_reducible refine gate_callee (f := 11) rfl ?_); refine gl_ (some 22) Tryd.func11 #[.string (rdOf ByteArray.empty t299 0)] ?_; (with_reducible refine (ratio_Parse.calls kj2 (rdOf ByteArray.empty t299 0) t304 t307 _ A13.out).mono ?_); rintro e w33 ⟨v305, rfl, ho0, hb⟩; refine ⟨_, rfl, ?_⟩; refine nx4_ (R_below (rU_ HO_4.out) hb) (V_lower (V_mono (ok' := fun k_ => (w.heap.size ≤ k_) ∧ some k_ ≠ (.slice (some ad303) t299.length co32 : Value).ownBlock ∧ k_ ≠ gb298) ho0 (fun k_ hk_ => ⟨(Nat.le_trans (below_size sU_) hk_), (fresh' (R_lt (rU_ HO_4.out)) k_ hk_), (freshB (kU_ BK298.out) k_ hk_)⟩)) (below_size sU_)) (blk_below (kU_ BK298.out) hb) (below_step sU_ hb) ?_; clear HO_4 BK298 HB; intro HO_4 HO306 BK298 HB; clear hb ho0; have hcz34_0 := bc0_ BK298.out; have hcz34_1 := bc1_ BK298.out; have hfz34_0 := blk_frozen BK298.out 0; have hfz34_1 := blk_frozen BK298.out 1))
     refine bodyPost_ret (results_ct rfl _ _ gb298 29 #[.slice none 0 0, .slice none 0 0] (0, 0) _ rfl kp_ Tryd.underlying29 rfl (by kernel_rfl)) rfl ?_
     exact ⟨_, _, eW_, Kd.V_nil _ _ _ _ _, Kd.V_nil _ _ _ _ _, sU_⟩



def slices_Reverse_byte_byte.l0 : Nat → List Int → Int → Int → Option (List Int)
 | 0, _, _, _ => none
 | k + 1, x0, x2, x3 => if x2 < x3 then (if 0 ≤ x3 then (if x3 < (x0.length : Int) then (if 0 ≤ x2 then (if x2 < (x0.length : Int) then (slices_Reverse_byte_byte.l0 k ((x0.set (x2 : Int).toNat (rd x0 x3)).set (x3 : Int).toNat (rd x0 x2)) (wrap64 (x2 + 1)) (wrap64 (x3 - 1))) else (none)) else (none)) else (none)) else (none)) else (some x0)
def slices_Reverse_byte_byte.f (k : Nat) (l0 : List Int) : Option (List Int) := slices_Reverse_byte_byte.l0 k l0 0 (wrap64 ((l0.length : Int) - 1))
theorem slices_Reverse_byte_byte.mono_l : ∀ k, (∀ y0 y1 y2, LeO (slices_Reverse_byte_byte.l0 k y0 y1 y2) (slices_Reverse_byte_byte.l0 (k + 1) y0 y1 y2))
 | 0 => fun _ _ _ r h => by simp [slices_Reverse_byte_byte.l0] at h
 | k + 1 => by
  have ih0 := slices_Reverse_byte_byte.mono_l k
  ·intro y0 y1 y2
   unfold slices_Reverse_byte_byte.l0
   with_reducible repeat' first | apply ih0 | exact LeO.refl _ | exact LeO.none _ | refine LeO.ite ?_ ?_ | refine LeO.bind ?_ (fun _ => ?_)
theorem slices_Reverse_byte_byte.mono : ∀ a0 k, LeO (slices_Reverse_byte_byte.f k a0) (slices_Reverse_byte_byte.f (k + 1) a0) := by
 intro a0 k
 have ih0 := slices_Reverse_byte_byte.mono_l k
 unfold slices_Reverse_byte_byte.f
 with_reducible repeat' first | apply ih0 | exact LeO.refl _ | exact LeO.none _ | refine LeO.ite ?_ ?_ | refine LeO.bind ?_ (fun _ => ?_)
def slices_Reverse_byte_byte.T3 : Bool × List (List Nat × List Nat) := (true, [([], []), ([], []), ([], []), ([], []), ([], []), ([], []), ([4, 5], [4, 5]), ([6], [6]), ([], []), ([], []), ([8, 9], [8, 9]), ([10], [10]), ([0, 1, 0, 1, 4, 5, 6, 7, 11], [0, 1]), ([12, 7, 0, 1, 4, 5, 6, 7, 11], [7, 12]), ([2, 3, 0, 1, 2, 3, 4, 5, 6, 7, 8, 9, 10, 11, 12, 13], [2, 3]), ([14, 11, 13, 0, 1, 2, 3, 4, 5, 6, 7, 8, 9, 10, 11, 12, 13], [11, 14])])
def slices_Reverse_byte_byte.B3 : List Nat := [0, 0, 0, 0, 0, 0, 48, 112, 0, 0, 768, 1792, 4083, 8179, 16383, 32767]
theorem slices_Reverse_byte_byte.tab3 : rtab .any (opsOf Tryd.f72 3) = slices_Reverse_byte_byte.T3 := by kernel_rfl
theorem slices_Reverse_byte_byte.bits3 : waitsOk slices_Reverse_byte_byte.T3.2 slices_Reverse_byte_byte.B3 = true := by kernel_rfl
set_option maxHeartbeats 8000000 in
set_option maxRecDepth 100000 in
theorem slices_Reverse_byte_byte.calls (k : Nat) (P0_ : Nat → Prop) (u9000_ : Value) (l0 : List Int) (r : List Int) (w0 w : World) (hB : Below w0.heap.size w0 w) (ho0 : Kd.R (Kd.int .u8) 5 w w0.heap.size P0_ u9000_ l0) (h : slices_Reverse_byte_byte.f k l0 = some r) :
  Calls Tryd.prog 72 #[u9000_] w fun e w' => e = .returned (.tuple #[]) ∧ Kd.R (Kd.int .u8) 5 w' w0.heap.size (fun k_ => (P0_ k_ ∨ w.heap.size ≤ k_)) u9000_ r ∧ Below w0.heap.size w0 w' ∧ Kept w w' (fun k_ => P0_ k_) := by
 have HO0 := ak (show Kd.R (Kd.int .u8) 5 w w0.heap.size (fun k_ => (P0_ k_ ∨ w.heap.size ≤ k_)) u9000_ l0 from R_mono ho0 (fun k_ hk => (.inl hk)))
 have HK := ak (Kept.refl w (fun k_ => P0_ k_))
 have HW0 := ak hB.size
 have HB := ak hB
 clear hB
 have H : (slices_Reverse_byte_byte.l0 k l0 0 (wrap64 ((l0.length : Int) - 1))) = some r := h
 clear h
 have H' := ak H
 clear H
 obtain ⟨Ao2, co2, eo2⟩ := R_slice HO0.out
 subst eo2
 go_enter Tryd.func72, Tryd.ntmps72
 go_wp2
 go_loopg [2, 3] k (fun kq v2 v3 w' => ∃ (x0_1 : List Int) (x2_1 : Int) (x3_1 : Int), v2 = .int .i64 x2_1 ∧ v3 = .int .i64 x3_1 ∧ Aside0 (slices_Reverse_byte_byte.l0 kq x0_1 x2_1 x3_1 = some r) ∧ Aside0 (kq ≤ k) ∧ Aside0 (Kd.R (Kd.int .u8) 5 w' w0.heap.size (fun k_ => (P0_ k_ ∨ w.heap.size ≤ k_)) (.slice Ao2 l0.length co2) x0_1) ∧ Aside0 (Kept w w' (fun k_ => P0_ k_)) ∧ Aside0 (Below w0.heap.size w0 w'))
 case atStart => exact ⟨(l0), (0), (wrap64 ((l0.length : Int) - 1)), gb_, gb_, H', ⟨Nat.le_refl _⟩, ⟨rU_ HO0.out⟩, ⟨kK_⟩, ⟨bU_ HB.out⟩⟩
 case round =>
  clear H'
  try clear p2
  obtain ⟨x0_1, x2_1, x3_1, rfl, rfl, HA, HK1, HO_0, HK, HB⟩ := hrel
  have hl0_1 := (R_reads' HO_0.out).1
  rw [hl0_1] at HO_0
  (try simp only [hl0_1])
  cases gk with
  | zero => exact absurd HA.out (by simp [slices_Reverse_byte_byte.l0])
  | succ k1 =>
   have H := HA.out
   clear HA
   simp only [slices_Reverse_byte_byte.l0] at H
   by_cases c3 : x2_1 < x3_1
   ·rw [if_pos c3] at H
    have c3b0 := decide_eq_true c3
    clear c3
    obtain ⟨c4, H⟩ : (0 ≤ x3_1) ∧ _ := it_ H
    have c4b0 := decide_eq_true c4
    clear c4
    obtain ⟨c5, H⟩ : (x3_1 < (x0_1.length : Int)) ∧ _ := it_ H
    have c5b0 := decide_eq_true c5
    clear c5
    obtain ⟨c6, H⟩ : (0 ≤ x2_1) ∧ _ := it_ H
    have c6b0 := decide_eq_true c6
    clear c6
    obtain ⟨c7, H⟩ : (x2_1 < (x0_1.length : Int)) ∧ _ := it_ H
    have c7b0 := decide_eq_true c7
    clear c7
    obtain ⟨y245, hy245⟩ : ∃ y_ : List Int, y_ = (x0_1.set (x2_1 : Int).toNat (rd x0_1 x3_1)) := ⟨_, rfl⟩
    first | rw [Option.bind_some, ← hy245] at H | rw [← hy245] at H
    have Ny245 := ak hy245
    clear hy245
    obtain ⟨y246, hy246⟩ : ∃ y_ : List Int, y_ = (y245.set (x3_1 : Int).toNat (rd x0_1 x2_1)) := ⟨_, rfl⟩
    first | rw [Option.bind_some, ← hy246] at H | rw [← hy246] at H
    have Ny246 := ak hy246
    clear hy246
    have H' := ak H
    clear H
    try go_wp2
    refine nx3_ (R_drew HO_0.out) (Kept.drew HK.out) (below_drew1 HB.out) ?_
    clear HO_0 HK HB
    intro HO_0 HK HB
    have pfr11 : 0 ≤ (x3_1 : Int) := od_
    have qfr11 : (x3_1 : Int) < ((x0_1.length : Int) : Int) := od_
    obtain ⟨gofr11, cofr11, eofr11, gbfr11, glfr11, clfr11, HGfr11⟩ := Kd.R_form HO_0.out (by omega)
    (first | cases eofr11 | (injection eofr11 with ea_ en_ ec_; (first | subst ea_ | (injection ea_ with ea_; subst ea_)); subst ec_; clear en_))
    have GBfr11 := ak gbfr11
    have GGfr11 := ak HGfr11
    clear gbfr11 glfr11 HGfr11
    have HMgofr11 := ak (show (P0_ gofr11 ∨ w.heap.size ≤ gofr11) from (HO_0.out.1 _ rfl))
    clear pfr11 qfr11
    have p243 : 0 ≤ (x3_1 : Int) := od_
    have q243 : x3_1 < (x0_1.length : Int) := od_
    obtain ⟨ad243, e243, hx243_0⟩ := Kd.at_int (R_reads' HO_0.out).2.2 x3_1 p243 q243
    obtain rfl : (⟨gofr11, 0, none⟩ : Addr) = ad243 := (by injection e243)
    (first | simp only [add_plain] at hx243_0 | simp only [add_at] at hx243_0 | simp only [Addr.add, Nat.zero_add] at hx243_0 | skip)
    replace p243 := eq_true p243
    replace q243 := eq_true q243
    have p244 : 0 ≤ (x2_1 : Int) := od_
    have q244 : x2_1 < (x0_1.length : Int) := od_
    obtain ⟨ad244, e244, hx244_0⟩ := Kd.at_int (R_reads' HO_0.out).2.2 x2_1 p244 q244
    obtain rfl : (⟨gofr11, 0, none⟩ : Addr) = ad244 := (by injection e244)
    (first | simp only [add_plain] at hx244_0 | simp only [add_at] at hx244_0 | simp only [Addr.add, Nat.zero_add] at hx244_0 | skip)
    replace p244 := eq_true p244
    replace q244 := eq_true q244
    have p8 : 0 ≤ (x2_1 : Int) := od_
    have q8 : (x2_1 : Int) < ((x0_1.length : Int) : Int) := od_
    obtain ⟨hx8_0, hf8_0⟩ := Kd.R_celln 0 HO_0.out (x2_1 : Int) p8 q8
    replace p8 := eq_true p8
    replace q8 := eq_true q8
    have HP12 := Kd.R_putn HO_0.out (x2_1 : Int) (rd x0_1 x3_1)
    rw [← Ny245.out] at HP12
    have HQ12 := ak HP12
    clear HP12
    have p9 : 0 ≤ (x3_1 : Int) := od_
    have q9 : (x3_1 : Int) < ((x0_1.length : Int) : Int) := od_
    obtain ⟨hx9_0, hf9_0⟩ := Kd.R_celln 0 HQ12.out (x3_1 : Int) p9 q9
    replace p9 := eq_true p9
    replace q9 := eq_true q9
    have HP13 := Kd.R_putn HQ12.out (x3_1 : Int) (rd x0_1 x2_1)
    rw [← Ny246.out] at HP13
    have HQ13 := ak HP13
    clear HP13
    refine start_ (n := 16) (S := fun w' => w'.cell? ⟨gofr11, (x3_1).toNat, none⟩ = some (.int .u8 (rd x0_1 x3_1)) ∧ w'.cell? ⟨gofr11, (x2_1).toNat, none⟩ = some (.int .u8 (rd x0_1 x2_1))) (ds := [13, 15]) (bv 16 0) (by kernel_rfl) rfl rfl ⟨hx243_0, hx244_0⟩ (fun hHeld => ?_); refine with_tabW slices_Reverse_byte_byte.tab3 slices_Reverse_byte_byte.bits3 (fun HT_ HW_ => ?_)
    generalize wr.drew = w10 at HO_0 HK HB HQ12 HQ13 hf8_0 hf9_0 hx243_0 hx244_0 hx8_0 hx9_0 hHeld ⊢
    refine pq_ 0 14 16 1 HT_.out ?_
    refine pq_ 1 15 16 3 HT_.out ?_
    refine pq_ 2 16 16 7 HT_.out ?_
    refine pq_ 3 17 16 15 HT_.out ?_
    refine pq_ 4 18 16 31 HT_.out ?_
    refine pq_ 5 19 16 63 HT_.out ?_
    refine pq_ 6 20 16 127 HT_.out ?_
    refine pq_ 8 22 16 383 HT_.out ?_
    refine pq_ 9 23 16 895 HT_.out ?_
    refine pq_ 10 24 16 1919 HT_.out ?_
    refine tq_ 7 21 16 2047 HT_.out HW_.out hHeld ?_
    refine tq_ 11 25 16 4095 HT_.out HW_.out hHeld ?_
    refine pq_ 12 26 16 8191 HT_.out ?_
    refine last_ (i := 13) (N := none) #[true, true, true, true, true, true, true, true, true, true, true, true, true, true, false, false] rfl rfl (one_of HT_.out (by kernel_rfl)) (by decide) (fun K hK => ?_)
    refine skip_ (w1 := ?_) (by rfl) rfl ?_ ?_
    rotate_left
    ·go_simp
     rfl
    refine hK.out _ _ ?_
    clear hK K
    refine pq_ 14 27 16 32767 HT_.out ?_
    refine last_ (i := 15) (N := none) #[true, true, true, true, true, true, true, true, true, true, true, true, true, true, true, true] rfl rfl (one_of HT_.out (by kernel_rfl)) (by decide) (fun K hK => ?_)
    refine skip_ (w1 := ?_) (by rfl) rfl ?_ ?_
    rotate_left
    ·go_simp
     rfl
    refine hK.out _ _ ?_
    clear hK K
    refine done_ (done_of HT_.out (by kernel_rfl)) ?_
    try go_wp2
    (try simp only [← hl0_1])
    go_roundg k1
    case measure => have := HK1.out; omega
    case rel => exact ⟨(y246), (wrap64 (x2_1 + 1)), (wrap64 (x3_1 - 1)), gb_, gb_, H', ⟨by have := HK1.out; omega⟩, ⟨by (try simp only [hl0_1]); (with_reducible repeat (first | apply Kd.R_alloc | apply Kd.R_drewN | apply R_drew)); exact HQ13.out⟩, ⟨by repeat (first | (with_reducible first | exact HK.out | apply Kept.alloc | apply Kept.drewN | apply Kept.drew | refine Kept.setCell ?_ HMgofr11.out _ | refine Kept.setCell ?_ HMgofr11.out _) | exact HK.out)⟩, ⟨sU_⟩⟩
   ·rw [if_neg c3] at H
    have c3b0 := decide_eq_false c3
    clear c3
    obtain rfl := Option.some.inj H
    go_wp2
    first | go_end0 | ((try simp only [Exit.inBlock, Exit.then]); refine bodyPost_ret (results_none rfl _ _ _) rfl ?_)
    exact ⟨eW_, (by first | exact (rU_ HO_0.out) | (simp only [hl0_1]; exact (rU_ HO_0.out))), bU_ HB.out, kK_⟩

end Go.Proofs.YtjjjoepnlhpjdaaDoor.Q

import Derived.Test.YtjjjoepnlhpjdaaDoorQ0
import Derived.Test.YtjjjoepnlhpjdaaDoorQ1
import Derived.Test.YtjjjoepnlhpjdaaDoorQ2
import Derived.Test.YtjjjoepnlhpjdaaDoorQ3
namespace Go.Proofs.YtjjjoepnlhpjdaaDoor.Q
open Go.RowKit Go.Proofs.YtjjjoepnlhpjdaaDoorW.PrintWords Go.Proofs.YtjjjoepnlhpjdaaDoorW.PrintLast Go.Proofs.YtjjjoepnlhpjdaaDoorW.PrintMore
open Kd (V_below V_mono V_far V_lower V_slice V_reads' C_below freshB V_drew)
attribute [local go_sem] max2_int min2_int max_two min_two max_three min_three max_four min_four   -- for this text's walks alone
set_option linter.unusedVariables false
set_option linter.unusedSimpArgs false

def ratio_Mul.j0 : Nat → Bool → List Int → List Int → List Int → List Int → Option (List Int × List Int × Int)
 | 0, _, _, _, _, _ => none
 | k + 1, x13, x553000, x553001, x554000, x554001 => if x13 = true then (some (([] : List Int), ([] : List Int), 1)) else ((ratio_mul.f k x553000 x554000).bind fun t557 => ((ratio_mul.f k x553001 x554001).bind fun t560 => ((ratio_lowest.f k t557 t560).bind fun bt563 => (some (bt563.1, bt563.2.1, bt563.2.2)))))
def ratio_Mul.f (k : Nat) (l0_0 : List Int) (l0_1 : List Int) (l1_0 : List Int) (l1_1 : List Int) : Option (List Int × List Int × Int) := (ratio_Valid.f k l0_0 l0_1).bind fun t555 => (if t555 = true then ((ratio_Valid.f k l1_0 l1_1).bind fun t556 => (ratio_Mul.j0 k (!t556) l0_0 l0_1 l1_0 l1_1)) else (ratio_Mul.j0 k true l0_0 l0_1 l1_0 l1_1))
def ratio_Mul.T3 : Bool × List (List Nat × List Nat) := (true, [([], []), ([0], [0]), ([], []), ([2], [2]), ([1, 3], [1, 3]), ([], []), ([5], [5]), ([], []), ([7], [7]), ([6, 8, 4], [6, 8]), ([4, 9, 9], [4, 9]), ([10], [10]), ([10], [10]), ([11, 10, 0, 1, 2, 3, 4, 5, 6, 7, 8, 9, 10, 11, 12], [11]), ([12, 13, 0, 1, 2, 3, 4, 5, 6, 7, 8, 9, 10, 11, 12, 13], [12])])
def ratio_Mul.B3 : List Nat := [0, 1, 0, 4, 15, 0, 32, 0, 128, 511, 1023, 2047, 2047, 8191, 16383]
theorem ratio_Mul.tab3 : rtab .any (opsOf Tryd.f34 3) = ratio_Mul.T3 := by kernel_rfl
theorem ratio_Mul.bits3 : waitsOk ratio_Mul.T3.2 ratio_Mul.B3 = true := by kernel_rfl
set_option maxHeartbeats 8000000 in
set_option maxRecDepth 100000 in
theorem ratio_Mul.calls (k : Nat) (A0_0 : Option Addr) (c0_0 : Nat) (l0_0 : List Int) (A0_1 : Option Addr) (c0_1 : Nat) (l0_1 : List Int) (A1_0 : Option Addr) (c1_0 : Nat) (l1_0 : List Int) (A1_1 : Option Addr) (c1_1 : Nat) (l1_1 : List Int) (r1 : List Int) (r2 : List Int) (r3 : Int) (w : World) (hr0_0 : Kd.C (Kd.int .u32) w A0_0 l0_0.length l0_0) (hc0_0 : l0_0.length ≤ c0_0) (hr0_1 : Kd.C (Kd.int .u32) w A0_1 l0_1.length l0_1) (hc0_1 : l0_1.length ≤ c0_1) (hr1_0 : Kd.C (Kd.int .u32) w A1_0 l1_0.length l1_0) (hc1_0 : l1_0.length ≤ c1_0) (hr1_1 : Kd.C (Kd.int .u32) w A1_1 l1_1.length l1_1) (hc1_1 : l1_1.length ≤ c1_1) (h : ratio_Mul.f k l0_0 l0_1 l1_0 l1_1 = some (r1, r2, r3)) :
  Calls Tryd.prog 34 #[.agg #[.slice A0_0 l0_0.length c0_0, .slice A0_1 l0_1.length c0_1], .agg #[.slice A1_0 l1_0.length c1_0, .slice A1_1 l1_1.length c1_1]] w fun e w' => ∃ v0_ v1_ : Value, e = .returned (.tuple #[.agg #[v0_, v1_], .int .i64 r3]) ∧ Kd.V (Kd.int .u32) 44 w' w.heap.size (fun k_ => (w.heap.size ≤ k_)) v0_ r1 ∧ Kd.V (Kd.int .u32) 44 w' w.heap.size (fun k_ => (w.heap.size ≤ k_)) v1_ r2 ∧ Below w.heap.size w w' := by
 have hu29 := Tryd.underlying29
 have HR0_0 := ak hr0_0
 have HC0_0 := ak hc0_0
 clear hr0_0 hc0_0
 have HR0_1 := ak hr0_1
 have HC0_1 := ak hc0_1
 clear hr0_1 hc0_1
 have HR1_0 := ak hr1_0
 have HC1_0 := ak hc1_0
 clear hr1_0 hc1_0
 have HR1_1 := ak hr1_1
 have HC1_1 := ak hc1_1
 clear hr1_1 hc1_1
 have HB := ak (Below.refl w.heap.size w)
 have H := h
 clear h
 unfold ratio_Mul.f at H
 have HC3 := ak H
 clear H
 go_enter Tryd.func34, Tryd.ntmps34
 go_upto_region 1 with (first | ((with_reducible refine gate_dst (N := 2) rfl ?_); refine bx_ 2 29 #[.slice A0_0 l0_0.length c0_0, .slice A0_1 l0_1.length c0_1] ?_; intro gb552 hg w4 hbox hb; refine nx4_ (below_step (bU_ HB.out) hb) (hbox) ((hs_ hg (below_size (bU_ HB.out)))) ((hs_ hg (below_size (bU_ HB.out)))) ?_; clear HB; intro HB BK552 GW552 GE552; clear hb hbox hg) | ((with_reducible refine gate_dst (N := 3) rfl ?_); refine bx_ 3 29 #[.slice A1_0 l1_0.length c1_0, .slice A1_1 l1_1.length c1_1] ?_; intro gb553 hg w5 hbox hb; refine nx7_ (blk_below (kU_ BK552.out) hb) (below_step sU_ hb) (hbox) ((hs_ hg (below_size sU_) : w.heap.size ≤ gb553)) ((hs_ hg (below_size sU_) : w.heap.size ≤ gb553)) ((hl_ hg (kU_ BK552.out))) ((hm_ hg (kU_ BK552.out))) ?_; clear BK552 HB; intro BK552 HB BK553 GW553 GE553 NB552_553 NB553_552; clear hb hbox hg) | ((with_reducible refine gate_dst (N := 4) rfl ?_); refine bx_ 4 29 #[.slice none 0 0, .slice none 0 0] ?_; intro gb554 hg w6 hbox hb; refine nx10_ (blk_below (kU_ BK552.out) hb) (blk_below (kU_ BK553.out) hb) (below_step sU_ hb) (hbox) ((hs_ hg (below_size sU_) : w.heap.size ≤ gb554)) ((hs_ hg (below_size sU_) : w.heap.size ≤ gb554)) ((hl_ hg (kU_ BK552.out))) ((hm_ hg (kU_ BK552.out))) ((hl_ hg (kU_ BK553.out))) ((hm_ hg (kU_ BK553.out))) ?_; clear BK552 BK553 HB; intro BK552 BK553 HB BK554 GW554 GE554 NB552_554 NB554_552 NB553_554 NB554_553; clear hb hbox hg))
 (try simp only [Act.put, s1_, s2_, s3_])
 go_cut [13] (fun v13 wc => ∃ (kq : Nat) (x13_2 : Bool), v13 = .bool x13_2 ∧ Aside0 (ratio_Mul.j0 kq x13_2 l0_0 l0_1 l1_0 l1_1 = some (r1, r2, r3)) ∧ Aside0 (kq ≤ k) ∧ Aside0 (wc.heap[gb552]? = some (.cells #[(.slice A0_0 l0_0.length c0_0), (.slice A0_1 l0_1.length c0_1)] 29 (0, 0))) ∧ Aside0 (wc.heap[gb553]? = some (.cells #[(.slice A1_0 l1_0.length c1_0), (.slice A1_1 l1_1.length c1_1)] 29 (0, 0))) ∧ Aside0 (wc.heap[gb554]? = some (.cells #[(.slice none 0 0), (.slice none 0 0)] 29 (0, 0))) ∧ Aside0 (Below w.heap.size w wc))
 case first =>
  have H := HC3.out
  clear HC3
  revert H
  refine bd_ fun t555 A7 H => ?_
  by_cases c8 : t555 = true
  ·subst c8
   rw [if_pos rfl] at H
   revert H
   refine bd_ fun t556 A9 H => ?_
   have H' := ak H
   clear H
   have hnb10 := NB552_553.out
   have hnc10 := NB553_552.out
   have hnb11 := NB552_554.out
   have hnc11 := NB554_552.out
   have hcz12_0 := bc0_ BK552.out
   have hcz12_1 := bc1_ BK552.out
   have hfz12_0 := blk_frozen BK552.out 0
   have hfz12_1 := blk_frozen BK552.out 1
   go_wp2_with (first | ((with_reducible refine gate_callee (f := 30) rfl ?_); refine gl_ (some 7) Tryd.func30 #[.agg #[.slice A0_0 l0_0.length c0_0, .slice A0_1 l0_1.length c0_1]] ?_; (with_reducible refine (ratio_Valid.calls k _ _ l0_0 _ _ l0_1 true _ ?side1 ?side2 ?side3 ?side4 A7.out).mono ?_); (case side1 => exact cU_ (C_below HR0_0.out HB.out)); (case side2 => exact HC0_0.out); (case side3 => exact cU_ (C_below HR0_1.out HB.out)); (case side4 => exact HC0_1.out); rintro e w13 ⟨rfl, hb⟩; refine ⟨_, rfl, ?_⟩; refine nx4_ (blk_below (kU_ BK552.out) hb) (blk_below (kU_ BK553.out) hb) (blk_below (kU_ BK554.out) hb) (below_step sU_ hb) ?_; clear BK552 BK553 BK554 HB; intro BK552 BK553 BK554 HB; clear hb; have hnb14 := NB553_554.out; have hnc14 := NB554_553.out; have hcz15_0 := bc0_ BK553.out; have hcz15_1 := bc1_ BK553.out; have hfz15_0 := blk_frozen BK553.out 0; have hfz15_1 := blk_frozen BK553.out 1) | (go_at_call 30; (with_reducible refine (ratio_Valid.calls k _ _ l1_0 _ _ l1_1 t556 _ ?side1 ?side2 ?side3 ?side4 A9.out).mono ?_); (case side1 => exact cU_ (C_below HR1_0.out HB.out)); (case side2 => exact HC1_0.out); (case side3 => exact cU_ (C_below HR1_1.out HB.out)); (case side4 => exact HC1_1.out); rintro e w16 ⟨rfl, hb⟩; refine nx4_ (blk_below (kU_ BK552.out) hb) (blk_below (kU_ BK553.out) hb) (blk_below (kU_ BK554.out) hb) (below_step sU_ hb) ?_; clear BK552 BK553 BK554 HB; intro BK552 BK553 BK554 HB; clear hb))
   go_meet
   case rel => exact ⟨_, (!t556), gb_, H', ⟨by first | omega | exact Nat.le_refl _⟩, ⟨by (with_reducible repeat (first | refine blk_drewN ?_ _ | refine blk_drew ?_ | refine blk_alloc ?_ _)); exact BK552.out⟩, ⟨by (with_reducible repeat (first | refine blk_drewN ?_ _ | refine blk_drew ?_ | refine blk_alloc ?_ _)); exact BK553.out⟩, ⟨by (with_reducible repeat (first | refine blk_drewN ?_ _ | refine blk_drew ?_ | refine blk_alloc ?_ _)); exact BK554.out⟩, ⟨sU_⟩⟩
  ·replace c8 := Bool.eq_false_iff.mpr c8
   subst c8
   rw [if_neg (show ¬ (false = true) by decide)] at H
   have H' := ak H
   clear H
   have hnb17 := NB552_553.out
   have hnc17 := NB553_552.out
   have hnb18 := NB552_554.out
   have hnc18 := NB554_552.out
   have hcz19_0 := bc0_ BK552.out
   have hcz19_1 := bc1_ BK552.out
   have hfz19_0 := blk_frozen BK552.out 0
   have hfz19_1 := blk_frozen BK552.out 1
   go_wp2_with (first | ((with_reducible refine gate_callee (f := 30) rfl ?_); refine gl_ (some 7) Tryd.func30 #[.agg #[.slice A0_0 l0_0.length c0_0, .slice A0_1 l0_1.length c0_1]] ?_; (with_reducible refine (ratio_Valid.calls k _ _ l0_0 _ _ l0_1 false _ ?side1 ?side2 ?side3 ?side4 A7.out).mono ?_); (case side1 => exact cU_ (C_below HR0_0.out HB.out)); (case side2 => exact HC0_0.out); (case side3 => exact cU_ (C_below HR0_1.out HB.out)); (case side4 => exact HC0_1.out); rintro e w20 ⟨rfl, hb⟩; refine ⟨_, rfl, ?_⟩; refine nx4_ (blk_below (kU_ BK552.out) hb) (blk_below (kU_ BK553.out) hb) (blk_below (kU_ BK554.out) hb) (below_step sU_ hb) ?_; clear BK552 BK553 BK554 HB; intro BK552 BK553 BK554 HB; clear hb))
   go_meet
   case rel => exact ⟨_, (true), gb_, H', ⟨by first | omega | exact Nat.le_refl _⟩, ⟨by (with_reducible repeat (first | refine blk_drewN ?_ _ | refine blk_drew ?_ | refine blk_alloc ?_ _)); exact BK552.out⟩, ⟨by (with_reducible repeat (first | refine blk_drewN ?_ _ | refine blk_drew ?_ | refine blk_alloc ?_ _)); exact BK553.out⟩, ⟨by (with_reducible repeat (first | refine blk_drewN ?_ _ | refine blk_drew ?_ | refine blk_alloc ?_ _)); exact BK554.out⟩, ⟨sU_⟩⟩
 case rest =>
  clear HC3
  (try clear c1); (try clear p2); (try clear c3); (try clear c8); (try clear c10); (try clear c11); (try clear c14); (try clear c17); (try clear c18); (try clear hcz12_0); (try clear hcz12_1); (try clear hcz15_0); (try clear hcz15_1); (try clear hcz19_0); (try clear hcz19_1); (try clear hfz12_0); (try clear hfz12_1); (try clear hfz15_0); (try clear hfz15_1); (try clear hfz19_0); (try clear hfz19_1)
  obtain ⟨kq, x13_2, rfl, HA, HJ2, BK552, BK553, BK554, HB⟩ := hcut
  cases kq with
  | zero => exact absurd HA.out (by simp [ratio_Mul.j0])
  | succ kj2 =>
   have H := HA.out
   clear HA
   simp only [ratio_Mul.j0] at H
   by_cases c21 : x13_2 = true
   ·subst c21
    rw [if_pos rfl] at H
    simp only [Option.some.injEq, Prod.mk.injEq] at H
    obtain ⟨rfl, rfl, rfl⟩ := H
    have hnb22 := NB554_552.out
    have hnc22 := NB552_554.out
    have hnb23 := NB554_553.out
    have hnc23 := NB553_554.out
    have hcz24_0 := bc0_ BK554.out
    have hcz24_1 := bc1_ BK554.out
    have hfz24_0 := blk_frozen BK554.out 0
    have hfz24_1 := blk_frozen BK554.out 1
    go_wp2
    refine bodyPost_ret (results_ct rfl _ _ gb554 29 #[.slice none 0 0, .slice none 0 0] (0, 0) _ rfl kp_ Tryd.underlying29 rfl (by kernel_rfl)) rfl ?_
    exact ⟨_, _, eW_, Kd.V_nil _ _ _ _ _, Kd.V_nil _ _ _ _ _, sU_⟩
   ·replace c21 := Bool.eq_false_iff.mpr c21
    subst c21
    rw [if_neg (show ¬ (false = true) by decide)] at H
    revert H
    refine bd_ fun t557 A25 H => ?_
    revert H
    refine bd_ fun t560 A26 H => ?_
    revert H
    refine bd3_ fun t563 t566 t569 A27 H => ?_
    try dsimp only at H
    simp only [Option.some.injEq, Prod.mk.injEq] at H
    obtain ⟨rfl, rfl, rfl⟩ := H
    try go_wp2
    refine nx4_ (blk_drew BK552.out) (blk_drew BK553.out) (blk_drew BK554.out) (below_drew1 HB.out) ?_
    clear BK552 BK553 BK554 HB
    intro BK552 BK553 BK554 HB
    refine start_ (n := 15) (S := fun w' => w'.cell? ⟨gb552, 0, none⟩ = some (.slice A0_0 l0_0.length c0_0) ∧ w'.cell? ⟨gb552, 1, none⟩ = some (.slice A0_1 l0_1.length c0_1) ∧ w'.cell? ⟨gb553, 0, none⟩ = some (.slice A1_0 l1_0.length c1_0) ∧ w'.cell? ⟨gb553, 1, none⟩ = some (.slice A1_1 l1_1.length c1_1)) (ds := []) (bv 15 0) (by kernel_rfl) rfl rfl ⟨bc0_ BK552.out, bc1_ BK552.out, bc0_ BK553.out, bc1_ BK553.out⟩ (fun hHeld => ?_); refine with_tabW ratio_Mul.tab3 ratio_Mul.bits3 (fun HT_ HW_ => ?_)
    generalize wc.drew = w28 at BK552 BK553 BK554 HB hHeld ⊢
    refine pq_ 0 15 15 1 HT_.out ?_
    refine pq_ 2 17 15 5 HT_.out ?_
    refine pq_ 5 20 15 37 HT_.out ?_
    refine pq_ 7 22 15 165 HT_.out ?_
    refine tq_ 1 16 15 167 HT_.out HW_.out hHeld ?_
    refine tq_ 3 18 15 175 HT_.out HW_.out hHeld ?_
    refine tq_ 6 21 15 239 HT_.out HW_.out hHeld ?_
    refine tq_ 8 23 15 495 HT_.out HW_.out hHeld ?_
    refine oq_ 4 19 15 511 HT_.out fun K hK => ?_
    refine goes_ Tryd.func59 (by kernel_rfl) rfl #[.slice A0_0 l0_0.length c0_0, .slice A1_0 l1_0.length c1_0] (by rfl) rfl rfl ga_ ?_
    with_reducible refine (ratio_mul.calls kj2 _ _ l0_0 _ _ l1_0 t557 _ ?side1 ?side2 ?side3 ?side4 A25.out).mono ?_
    (case side1 => exact cU_ (C_below HR0_0.out HB.out))
    (case side2 => exact HC0_0.out)
    (case side3 => exact cU_ (C_below HR1_0.out HB.out))
    (case side4 => exact HC1_0.out)
    rintro e w29 ⟨v558, rfl, ho0, hb⟩
    refine ⟨_, rfl, ?_⟩
    refine nx5_ (V_lower (V_mono (ok' := fun k_ => (w.heap.size ≤ k_) ∧ k_ ≠ gb552 ∧ k_ ≠ gb553 ∧ k_ ≠ gb554) ho0 (fun k_ hk_ => ⟨(Nat.le_trans (below_size sU_) hk_), (freshB (kU_ BK552.out) k_ hk_), (freshB (kU_ BK553.out) k_ hk_), (freshB (kU_ BK554.out) k_ hk_)⟩)) (below_size sU_)) (blk_below (kU_ BK552.out) hb) (blk_below (kU_ BK553.out) hb) (blk_below (kU_ BK554.out) hb) (below_step sU_ hb) ?_
    clear BK552 BK553 BK554 HB
    intro HO559 BK552 BK553 BK554 HB
    (try clear hb)
    (try clear hb2)
    (try clear hk)
    (try clear hi)
    (try clear ho0)
    refine hK.out _ _ ⟨bc0_ BK552.out, bc1_ BK552.out, bc0_ BK553.out, bc1_ BK553.out⟩ (fun hHeld => ?_)
    clear hK K
    refine norm_ (a' := ?_) ?_ ?_
    rotate_left
    ·show Act.put _ (some 19) _ = _
     simp only [Act.put, s1_, s2_, s3_, i64_w, i32_w]
     rfl
    refine oq_ 9 24 15 1023 HT_.out fun K hK => ?_
    refine goes_ Tryd.func59 (by kernel_rfl) rfl #[.slice A0_1 l0_1.length c0_1, .slice A1_1 l1_1.length c1_1] (by rfl) rfl rfl ga_ ?_
    with_reducible refine (ratio_mul.calls kj2 _ _ l0_1 _ _ l1_1 t560 _ ?side1 ?side2 ?side3 ?side4 A26.out).mono ?_
    (case side1 => exact cU_ (C_below HR0_1.out HB.out))
    (case side2 => exact HC0_1.out)
    (case side3 => exact cU_ (C_below HR1_1.out HB.out))
    (case side4 => exact HC1_1.out)
    rintro e w30 ⟨v561, rfl, ho0, hb⟩
    refine ⟨_, rfl, ?_⟩
    refine nx6_ (V_below (vU_ HO559.out) hb) (V_lower (V_mono (ok' := fun k_ => (w.heap.size ≤ k_) ∧ k_ ≠ gb552 ∧ k_ ≠ gb553 ∧ k_ ≠ gb554) ho0 (fun k_ hk_ => ⟨(Nat.le_trans (below_size sU_) hk_), (freshB (kU_ BK552.out) k_ hk_), (freshB (kU_ BK553.out) k_ hk_), (freshB (kU_ BK554.out) k_ hk_)⟩)) (below_size sU_)) (blk_below (kU_ BK552.out) hb) (blk_below (kU_ BK553.out) hb) (blk_below (kU_ BK554.out) hb) (below_step sU_ hb) ?_
    clear HO559 BK552 BK553 BK554 HB
    intro HO559 HO562 BK552 BK553 BK554 HB
    (try clear hb)
    (try clear hb2)
    (try clear hk)
    (try clear hi)
    (try clear ho0)
    obtain ⟨Ao31, co31, eo31⟩ := V_slice HO559.out
    (first | subst eo31 | (injection eo31 with f1_ f2_ f3_; have f4_ := f1_.symm; have f5_ := f3_.symm; clear f1_ f2_ f3_; subst f4_; subst f5_))
    obtain ⟨Ao32, co32, eo32⟩ := V_slice HO562.out
    (first | subst eo32 | (injection eo32 with f1_ f2_ f3_; have f4_ := f1_.symm; have f5_ := f3_.symm; clear f1_ f2_ f3_; subst f4_; subst f5_))
    refine hK.out _ _ ⟨bc0_ BK552.out, bc1_ BK552.out, bc0_ BK553.out, bc1_ BK553.out⟩ (fun hHeld => ?_)
    clear hK K
    refine norm_ (a' := ?_) ?_ ?_
    rotate_left
    ·show Act.put _ (some 24) _ = _
     simp only [Act.put, s1_, s2_, s3_, i64_w, i32_w]
     rfl
    refine oq_ 10 25 15 2047 HT_.out fun K hK => ?_
    refine goes_ Tryd.func77 (by kernel_rfl) rfl #[.slice Ao31 t557.length co31, .slice Ao32 t560.length co32] (by rfl) rfl rfl ga_ ?_
    with_reducible refine (ratio_lowest.calls kj2 _ _ t557 _ _ t560 t563 t566 t569 _ ?side1 ?side2 ?side3 ?side4 A27.out).mono ?_
    (case side1 => exact cU_ ((V_reads' HO559.out).2.2))
    (case side2 => exact (V_reads' HO559.out).2.1)
    (case side3 => exact cU_ ((V_reads' HO562.out).2.2))
    (case side4 => exact (V_reads' HO562.out).2.1)
    rintro e w33 ⟨v564, v567, rfl, ho0, ho1, hb⟩
    refine ⟨_, rfl, ?_⟩
    refine nx8_ (V_below (vU_ HO559.out) hb) (V_below (vU_ HO562.out) hb) (V_lower (V_mono (ok' := fun k_ => (w.heap.size ≤ k_) ∧ k_ ≠ gb552 ∧ k_ ≠ gb553 ∧ k_ ≠ gb554) ho0 (fun k_ hk_ => ⟨(Nat.le_trans (below_size sU_) hk_), (freshB (kU_ BK552.out) k_ hk_), (freshB (kU_ BK553.out) k_ hk_), (freshB (kU_ BK554.out) k_ hk_)⟩)) (below_size sU_)) (V_lower (V_mono (ok' := fun k_ => (w.heap.size ≤ k_) ∧ k_ ≠ gb552 ∧ k_ ≠ gb553 ∧ k_ ≠ gb554) ho1 (fun k_ hk_ => ⟨(Nat.le_trans (below_size sU_) hk_), (freshB (kU_ BK552.out) k_ hk_), (freshB (kU_ BK553.out) k_ hk_), (freshB (kU_ BK554.out) k_ hk_)⟩)) (below_size sU_)) (blk_below (kU_ BK552.out) hb) (blk_below (kU_ BK553.out) hb) (blk_below (kU_ BK554.out) hb) (below_step sU_ hb) ?_
    clear HO559 HO562 BK552 BK553 BK554 HB
    intro HO559 HO562 HO565 HO568 BK552 BK553 BK554 HB
    (try clear hb)
    (try clear hb2)
    (try clear hk)
    (try clear hi)
    (try clear ho0)
    (try clear ho1)
    obtain ⟨Ao34, co34, eo34⟩ := V_slice HO565.out
    (first | subst eo34 | (injection eo34 with f1_ f2_ f3_; have f4_ := f1_.symm; have f5_ := f3_.symm; clear f1_ f2_ f3_; subst f4_; subst f5_))
    obtain ⟨Ao36, co36, eo36⟩ := V_slice HO568.out
    (first | subst eo36 | (injection eo36 with f1_ f2_ f3_; have f4_ := f1_.symm; have f5_ := f3_.symm; clear f1_ f2_ f3_; subst f4_; subst f5_))
    refine hK.out _ _ ⟨bc0_ BK552.out, bc1_ BK552.out, bc0_ BK553.out, bc1_ BK553.out⟩ (fun hHeld => ?_)
    clear hK K
    refine norm_ (a' := ?_) ?_ ?_
    rotate_left
    ·show Act.put _ (some 25) _ = _
     simp only [Act.put, s1_, s2_, s3_, i64_w, i32_w]
     rfl
    refine pq_ 11 26 15 4095 HT_.out ?_
    refine pq_ 12 27 15 8191 HT_.out ?_
    refine one_ (i := 13) (N := none) (bv 15 16383) rfl rfl (one_of HT_.out (by kernel_rfl)) (by decide) (fun K hK => ?_)
    have hs35 : w33.cell? ⟨gb554, 0, none⟩ = some (.slice none 0 0) := bc0_ BK554.out
    have hfs35 := blk_frozen BK554.out 0
    have hns35_0 := NB552_554.out
    have hns35_1 := NB553_554.out
    have hms35_0 := NB554_552.out
    have hms35_1 := NB554_553.out
    have hs37 : w33.cell? ⟨gb554, 1, none⟩ = some (.slice none 0 0) := bc1_ BK554.out
    have hfs37 := blk_frozen BK554.out 1
    have hns37_0 := NB552_554.out
    have hns37_1 := NB553_554.out
    have hms37_0 := NB554_552.out
    have hms37_1 := NB554_553.out
    refine skip_ (w1 := ?_) (by rfl) rfl ?_ ?_
    rotate_left
    ·go_simp
     rfl
    refine hK.out _ _ ⟨((cell_far (p := ⟨gb554, _, none⟩) NB552_554.out _).trans (((cell_far (p := ⟨gb554, _, none⟩) NB552_554.out _).trans (hHeld.1)))), ((cell_far (p := ⟨gb554, _, none⟩) NB552_554.out _).trans (((cell_far (p := ⟨gb554, _, none⟩) NB552_554.out _).trans (hHeld.2.1)))), ((cell_far (p := ⟨gb554, _, none⟩) NB553_554.out _).trans (((cell_far (p := ⟨gb554, _, none⟩) NB553_554.out _).trans (hHeld.2.2.1)))), ((cell_far (p := ⟨gb554, _, none⟩) NB553_554.out _).trans (((cell_far (p := ⟨gb554, _, none⟩) NB553_554.out _).trans (hHeld.2.2.2))))⟩ (fun hHeld => ?_)
    clear hK K
    refine pq_ 14 5 15 32767 HT_.out ?_
    refine done_ (done_of HT_.out (by kernel_rfl)) ?_
    try go_wp2
    refine bodyPost_ret (results_ct rfl _ _ gb554 29 #[.slice Ao34 t563.length co34, .slice Ao36 t566.length co36] (0, 0) _ rfl kp_ Tryd.underlying29 rfl (by kernel_rfl)) rfl ?_
    exact ⟨_, _, eW_, by (with_reducible repeat (first | apply Kd.V_alloc | apply Kd.V_drewN | apply V_drew)); exact V_mono (V_far (p := ⟨gb554, 1, none⟩) (V_far (p := ⟨gb554, 0, none⟩) (V_mono HO565.out (fun k_ hk => (⟨hk, hk.2.2.2⟩ : _ ∧ k_ ≠ gb554))) (fun _ hk => hk.2) (.slice Ao34 t563.length co34)) (fun _ hk => hk.2) (.slice Ao36 t566.length co36)) (fun _ hk => hk.1.1), by (with_reducible repeat (first | apply Kd.V_alloc | apply Kd.V_drewN | apply V_drew)); exact V_mono (V_far (p := ⟨gb554, 1, none⟩) (V_far (p := ⟨gb554, 0, none⟩) (V_mono HO568.out (fun k_ hk => (⟨hk, hk.2.2.2⟩ : _ ∧ k_ ≠ gb554))) (fun _ hk => hk.2) (.slice Ao34 t563.length co34)) (fun _ hk => hk.2) (.slice Ao36 t566.length co36)) (fun _ hk => hk.1.1), sU_⟩

end Go.Proofs.YtjjjoepnlhpjdaaDoor.Q

import Derived.Test.YtjjjoepnlhpjdaaDoorQ0
import Derived.Test.YtjjjoepnlhpjdaaDoorQ1
import Derived.Test.YtjjjoepnlhpjdaaDoorQ3
namespace Go.Proofs.YtjjjoepnlhpjdaaDoor.Q
open Go.RowKit Go.Proofs.YtjjjoepnlhpjdaaDoorW.PrintWords Go.Proofs.YtjjjoepnlhpjdaaDoorW.PrintLast Go.Proofs.YtjjjoepnlhpjdaaDoorW.PrintMore
open Kd (V_below V_mono V_lower V_slice V_reads' C_below freshB)
attribute [local go_sem] max2_int min2_int max_two min_two max_three min_three max_four min_four   -- for this text's walks alone
set_option linter.unusedVariables false
set_option linter.unusedSimpArgs false

def ratio_Order.j0 : Nat → Bool → List Int → List Int → List Int → List Int → Option (Int)
 | 0, _, _, _, _, _ => none
 | k + 1, x12, x571000, x571001, x572000, x572001 => if x12 = true then (some 0) else ((ratio_mul.f k x571000 x572001).bind fun t574 => ((ratio_mul.f k x572000 x571001).bind fun t577 => ((ratio_compare.f k t574 t577).bind fun t580 => (some t580))))
def ratio_Order.f (k : Nat) (l0_0 : List Int) (l0_1 : List Int) (l1_0 : List Int) (l1_1 : List Int) : Option (Int) := (ratio_Valid.f k l0_0 l0_1).bind fun t572 => (if t572 = true then ((ratio_Valid.f k l1_0 l1_1).bind fun t573 => (ratio_Order.j0 k (!t573) l0_0 l0_1 l1_0 l1_1)) else (ratio_Order.j0 k true l0_0 l0_1 l1_0 l1_1))
def ratio_Order.T3 : Bool × List (List Nat × List Nat) := (true, [([], []), ([0], [0]), ([], []), ([2], [2]), ([1, 3], [1, 3]), ([], []), ([5], [5]), ([], []), ([7], [7]), ([6, 8, 4], [6, 8]), ([4, 9, 9], [4, 9]), ([10, 10, 0, 1, 2, 3, 4, 5, 6, 7, 8, 9, 10], [10])])
def ratio_Order.B3 : List Nat := [0, 1, 0, 4, 15, 0, 32, 0, 128, 511, 1023, 2047]
theorem ratio_Order.tab3 : rtab .any (opsOf Tryd.f35 3) = ratio_Order.T3 := by kernel_rfl
theorem ratio_Order.bits3 : waitsOk ratio_Order.T3.2 ratio_Order.B3 = true := by kernel_rfl
set_option maxHeartbeats 8000000 in
set_option maxRecDepth 100000 in
theorem ratio_Order.calls (k : Nat) (A0_0 : Option Addr) (c0_0 : Nat) (l0_0 : List Int) (A0_1 : Option Addr) (c0_1 : Nat) (l0_1 : List Int) (A1_0 : Option Addr) (c1_0 : Nat) (l1_0 : List Int) (A1_1 : Option Addr) (c1_1 : Nat) (l1_1 : List Int) (r : Int) (w : World) (hr0_0 : Kd.C (Kd.int .u32) w A0_0 l0_0.length l0_0) (hc0_0 : l0_0.length ≤ c0_0) (hr0_1 : Kd.C (Kd.int .u32) w A0_1 l0_1.length l0_1) (hc0_1 : l0_1.length ≤ c0_1) (hr1_0 : Kd.C (Kd.int .u32) w A1_0 l1_0.length l1_0) (hc1_0 : l1_0.length ≤ c1_0) (hr1_1 : Kd.C (Kd.int .u32) w A1_1 l1_1.length l1_1) (hc1_1 : l1_1.length ≤ c1_1) (h : ratio_Order.f k l0_0 l0_1 l1_0 l1_1 = some r) :
  Calls Tryd.prog 35 #[.agg #[.slice A0_0 l0_0.length c0_0, .slice A0_1 l0_1.length c0_1], .agg #[.slice A1_0 l1_0.length c1_0, .slice A1_1 l1_1.length c1_1]] w fun e w' => e = .returned (.int .i64 r) ∧ Below w.heap.size w w' := by
 have hu29 := Tryd.underlying29
 have HR0_0 := ak hr0_0
 have HC0_0 := ak hc0_0
 clear hr0_0 hc0_0
 have HR0_1 := ak hr0_1
 have HC0_1 := ak hc0_1
 clear hr0_1 hc0_1
 have HR1_0 := ak hr1_0
 have HC1_0 := ak hc1_0
 clear hr1_0 hc1_0
 have HR1_1 := ak hr1_1
 have HC1_1 := ak hc1_1
 clear hr1_1 hc1_1
 have HB := ak (Below.refl w.heap.size w)
 have H := h
 clear h
 unfold ratio_Order.f at H
 have HC3 := ak H
 clear H
 go_enter Tryd.func35, Tryd.ntmps35
 go_upto_region 1 with (first | ((with_reducible refine gate_dst (N := 2) rfl ?_); refine bx_ 2 29 #[.slice A0_0 l0_0.length c0_0, .slice A0_1 l0_1.length c0_1] ?_; intro gb570 hg w4 hbox hb; refine nx4_ (below_step (bU_ HB.out) hb) (hbox) ((hs_ hg (below_size (bU_ HB.out)))) ((hs_ hg (below_size (bU_ HB.out)))) ?_; clear HB; intro HB BK570 GW570 GE570; clear hb hbox hg) | ((with_reducible refine gate_dst (N := 3) rfl ?_); refine bx_ 3 29 #[.slice A1_0 l1_0.length c1_0, .slice A1_1 l1_1.length c1_1] ?_; intro gb571 hg w5 hbox hb; refine nx7_ (blk_below (kU_ BK570.out) hb) (below_step sU_ hb) (hbox) ((hs_ hg (below_size sU_) : w.heap.size ≤ gb571)) ((hs_ hg (below_size sU_) : w.heap.size ≤ gb571)) ((hl_ hg (kU_ BK570.out))) ((hm_ hg (kU_ BK570.out))) ?_; clear BK570 HB; intro BK570 HB BK571 GW571 GE571 NB570_571 NB571_570; clear hb hbox hg))
 (try simp only [Act.put, s1_, s2_, s3_])
 go_cut [12] (fun v12 wc => ∃ (kq : Nat) (x12_2 : Bool), v12 = .bool x12_2 ∧ Aside0 (ratio_Order.j0 kq x12_2 l0_0 l0_1 l1_0 l1_1 = some r) ∧ Aside0 (kq ≤ k) ∧ Aside0 (wc.heap[gb570]? = some (.cells #[(.slice A0_0 l0_0.length c0_0), (.slice A0_1 l0_1.length c0_1)] 29 (0, 0))) ∧ Aside0 (wc.heap[gb571]? = some (.cells #[(.slice A1_0 l1_0.length c1_0), (.slice A1_1 l1_1.length c1_1)] 29 (0, 0))) ∧ Aside0 (Below w.heap.size w wc))
 case first =>
  have H := HC3.out
  clear HC3
  revert H
  refine bd_ fun t572 A6 H => ?_
  by_cases c7 : t572 = true
  ·subst c7
   rw [if_pos rfl] at H
   revert H
   refine bd_ fun t573 A8 H => ?_
   have H' := ak H
   clear H
   have hnb9 := NB570_571.out
   have hnc9 := NB571_570.out
   have hcz10_0 := bc0_ BK570.out
   have hcz10_1 := bc1_ BK570.out
   have hfz10_0 := blk_frozen BK570.out 0
   have hfz10_1 := blk_frozen BK570.out 1
   go_wp2_with (first | ((with_reducible refine gate_callee (f := 30) rfl ?_); refine gl_ (some 6) Tryd.func30 #[.agg #[.slice A0_0 l0_0.length c0_0, .slice A0_1 l0_1.length c0_1]] ?_; (with_reducible refine (ratio_Valid.calls k _ _ l0_0 _ _ l0_1 true _ ?side1 ?side2 ?side3 ?side4 A6.out).mono ?_); (case side1 => exact cU_ (C_below HR0_0.out HB.out)); (case side2 => exact HC0_0.out); (case side3 => exact cU_ (C_below HR0_1.out HB.out)); (case side4 => exact HC0_1.out); rintro e w11 ⟨rfl, hb⟩; refine ⟨_, rfl, ?_⟩; refine nx3_ (blk_below (kU_ BK570.out) hb) (blk_below (kU_ BK571.out) hb) (below_step sU_ hb) ?_; clear BK570 BK571 HB; intro BK570 BK571 HB; clear hb; have hcz12_0 := bc0_ BK571.out; have hcz12_1 := bc1_ BK571.out; have hfz12_0 := blk_frozen BK571.out 0; have hfz12_1 := blk_frozen BK571.out 1) | (go_at_call 30; (with_reducible refine (ratio_Valid.calls k _ _ l1_0 _ _ l1_1 t573 _ ?side1 ?side2 ?side3 ?side4 A8.out).mono ?_); (case side1 => exact cU_ (C_below HR1_0.out HB.out)); (case side2 => exact HC1_0.out); (case side3 => exact cU_ (C_below HR1_1.out HB.out)); (case side4 => exact HC1_1.out); rintro e w13 ⟨rfl, hb⟩; refine nx3_ (blk_below (kU_ BK570.out) hb) (blk_below (kU_ BK571.out) hb) (below_step sU_ hb) ?_; clear BK570 BK571 HB; intro BK570 BK571 HB; clear hb))
   go_meet
   case rel => exact ⟨_, (!t573), gb_, H', ⟨by first | omega | exact Nat.le_refl _⟩, ⟨by (with_reducible repeat (first | refine blk_drewN ?_ _ | refine blk_drew ?_ | refine blk_alloc ?_ _)); exact BK570.out⟩, ⟨by (with_reducible repeat (first | refine blk_drewN ?_ _ | refine blk_drew ?_ | refine blk_alloc ?_ _)); exact BK571.out⟩, ⟨sU_⟩⟩
  ·replace c7 := Bool.eq_false_iff.mpr c7
   subst c7
   rw [if_neg (show ¬ (false = true) by decide)] at H
   have H' := ak H
   clear H
   have hnb14 := NB570_571.out
   have hnc14 := NB571_570.out
   have hcz15_0 := bc0_ BK570.out
   have hcz15_1 := bc1_ BK570.out
   have hfz15_0 := blk_frozen BK570.out 0
   have hfz15_1 := blk_frozen BK570.out 1
   go_wp2_with (first | ((with_reducible refine gate_callee (f := 30) rfl ?_); refine gl_ (some 6) Tryd.func30 #[.agg #[.slice A0_0 l0_0.length c0_0, .slice A0_1 l0_1.length c0_1]] ?_; (with_reducible refine (ratio_Valid.calls k _ _ l0_0 _ _ l0_1 false _ ?side1 ?side2 ?side3 ?side4 A6.out).mono ?_); (case side1 => exact cU_ (C_below HR0_0.out HB.out)); (case side2 => exact HC0_0.out); (case side3 => exact cU_ (C_below HR0_1.out HB.out)); (case side4 => exact HC0_1.out); rintro e w16 ⟨rfl, hb⟩; refine ⟨_, rfl, ?_⟩; refine nx3_ (blk_below (kU_ BK570.out) hb) (blk_below (kU_ BK571.out) hb) (below_step sU_ hb) ?_; clear BK570 BK571 HB; intro BK570 BK571 HB; clear hb))
   go_meet
   case rel => exact ⟨_, (true), gb_, H', ⟨by first | omega | exact Nat.le_refl _⟩, ⟨by (with_reducible repeat (first | refine blk_drewN ?_ _ | refine blk_drew ?_ | refine blk_alloc ?_ _)); exact BK570.out⟩, ⟨by (with_reducible repeat (first | refine blk_drewN ?_ _ | refine blk_drew ?_ | refine blk_alloc ?_ _)); exact BK571.out⟩, ⟨sU_⟩⟩
 case rest =>
  clear HC3
  (try clear c1); (try clear p2); (try clear c3); (try clear c7); (try clear c9); (try clear c14); (try clear hcz10_0); (try clear hcz10_1); (try clear hcz12_0); (try clear hcz12_1); (try clear hcz15_0); (try clear hcz15_1); (try clear hfz10_0); (try clear hfz10_1); (try clear hfz12_0); (try clear hfz12_1); (try clear hfz15_0); (try clear hfz15_1)
  obtain ⟨kq, x12_2, rfl, HA, HJ2, BK570, BK571, HB⟩ := hcut
  cases kq with
  | zero => exact absurd HA.out (by simp [ratio_Order.j0])
  | succ kj2 =>
   have H := HA.out
   clear HA
   simp only [ratio_Order.j0] at H
   by_cases c17 : x12_2 = true
   ·subst c17
    rw [if_pos rfl] at H
    obtain rfl := Option.some.inj H
    go_wp2
    go_ret
    exact ⟨eW_, sU_⟩
   ·replace c17 := Bool.eq_false_iff.mpr c17
    subst c17
    rw [if_neg (show ¬ (false = true) by decide)] at H
    revert H
    refine bd_ fun t574 A18 H => ?_
    revert H
    refine bd_ fun t577 A19 H => ?_
    revert H
    refine bd_ fun t580 A20 H => ?_
    obtain rfl := Option.some.inj H
    try go_wp2
    refine nx3_ (blk_drew BK570.out) (blk_drew BK571.out) (below_drew1 HB.out) ?_
    clear BK570 BK571 HB
    intro BK570 BK571 HB
    refine start_ (n := 12) (S := fun w' => w'.cell? ⟨gb570, 0, none⟩ = some (.slice A0_0 l0_0.length c0_0) ∧ w'.cell? ⟨gb570, 1, none⟩ = some (.slice A0_1 l0_1.length c0_1) ∧ w'.cell? ⟨gb571, 0, none⟩ = some (.slice A1_0 l1_0.length c1_0) ∧ w'.cell? ⟨gb571, 1, none⟩ = some (.slice A1_1 l1_1.length c1_1)) (ds := []) (bv 12 0) (by kernel_rfl) rfl rfl ⟨bc0_ BK570.out, bc1_ BK570.out, bc0_ BK571.out, bc1_ BK571.out⟩ (fun hHeld => ?_); refine with_tabW ratio_Order.tab3 ratio_Order.bits3 (fun HT_ HW_ => ?_)
    generalize wc.drew = w21 at BK570 BK571 HB hHeld ⊢
    refine pq_ 0 13 12 1 HT_.out ?_
    refine pq_ 2 15 12 5 HT_.out ?_
    refine pq_ 5 18 12 37 HT_.out ?_
    refine pq_ 7 20 12 165 HT_.out ?_
    refine tq_ 1 14 12 167 HT_.out HW_.out hHeld ?_
    refine tq_ 3 16 12 175 HT_.out HW_.out hHeld ?_
    refine tq_ 6 19 12 239 HT_.out HW_.out hHeld ?_
    refine tq_ 8 21 12 495 HT_.out HW_.out hHeld ?_
    refine oq_ 4 17 12 511 HT_.out fun K hK => ?_
    refine goes_ Tryd.func59 (by kernel_rfl) rfl #[.slice A0_0 l0_0.length c0_0, .slice A1_1 l1_1.length c1_1] (by rfl) rfl rfl ga_ ?_
    with_reducible refine (ratio_mul.calls kj2 _ _ l0_0 _ _ l1_1 t574 _ ?side1 ?side2 ?side3 ?side4 A18.out).mono ?_
    (case side1 => exact cU_ (C_below HR0_0.out HB.out))
    (case side2 => exact HC0_0.out)
    (case side3 => exact cU_ (C_below HR1_1.out HB.out))
    (case side4 => exact HC1_1.out)
    rintro e w22 ⟨v575, rfl, ho0, hb⟩
    refine ⟨_, rfl, ?_⟩
    refine nx4_ (V_lower (V_mono (ok' := fun k_ => k_ ≠ gb570 ∧ k_ ≠ gb571) ho0 (fun k_ hk_ => ⟨(freshB (kU_ BK570.out) k_ hk_), (freshB (kU_ BK571.out) k_ hk_)⟩)) (below_size sU_)) (blk_below (kU_ BK570.out) hb) (blk_below (kU_ BK571.out) hb) (below_step sU_ hb) ?_
    clear BK570 BK571 HB
    intro HO576 BK570 BK571 HB
    (try clear hb)
    (try clear hb2)
    (try clear hk)
    (try clear hi)
    (try clear ho0)
    refine hK.out _ _ ⟨bc0_ BK570.out, bc1_ BK570.out, bc0_ BK571.out, bc1_ BK571.out⟩ (fun hHeld => ?_)
    clear hK K
    refine norm_ (a' := ?_) ?_ ?_
    rotate_left
    ·show Act.put _ (some 17) _ = _
     simp only [Act.put, s1_, s2_, s3_, i64_w, i32_w]
     rfl
    refine oq_ 9 22 12 1023 HT_.out fun K hK => ?_
    refine goes_ Tryd.func59 (by kernel_rfl) rfl #[.slice A1_0 l1_0.length c1_0, .slice A0_1 l0_1.length c0_1] (by rfl) rfl rfl ga_ ?_
    with_reducible refine (ratio_mul.calls kj2 _ _ l1_0 _ _ l0_1 t577 _ ?side1 ?side2 ?side3 ?side4 A19.out).mono ?_
    (case side1 => exact cU_ (C_below HR1_0.out HB.out))
    (case side2 => exact HC1_0.out)
    (case side3 => exact cU_ (C_below HR0_1.out HB.out))
    (case side4 => exact HC0_1.out)
    rintro e w23 ⟨v578, rfl, ho0, hb⟩
    refine ⟨_, rfl, ?_⟩
    refine nx5_ (V_below (vU_ HO576.out) hb) (V_lower (V_mono (ok' := fun k_ => k_ ≠ gb570 ∧ k_ ≠ gb571) ho0 (fun k_ hk_ => ⟨(freshB (kU_ BK570.out) k_ hk_), (freshB (kU_ BK571.out) k_ hk_)⟩)) (below_size sU_)) (blk_below (kU_ BK570.out) hb) (blk_below (kU_ BK571.out) hb) (below_step sU_ hb) ?_
    clear HO576 BK570 BK571 HB
    intro HO576 HO579 BK570 BK571 HB
    (try clear hb)
    (try clear hb2)
    (try clear hk)
    (try clear hi)
    (try clear ho0)
    obtain ⟨Ao24, co24, eo24⟩ := V_slice HO576.out
    (first | subst eo24 | (injection eo24 with f1_ f2_ f3_; have f4_ := f1_.symm; have f5_ := f3_.symm; clear f1_ f2_ f3_; subst f4_; subst f5_))
    obtain ⟨Ao25, co25, eo25⟩ := V_slice HO579.out
    (first | subst eo25 | (injection eo25 with f1_ f2_ f3_; have f4_ := f1_.symm; have f5_ := f3_.symm; clear f1_ f2_ f3_; subst f4_; subst f5_))
    refine hK.out _ _ ⟨bc0_ BK570.out, bc1_ BK570.out, bc0_ BK571.out, bc1_ BK571.out⟩ (fun hHeld => ?_)
    clear hK K
    refine norm_ (a' := ?_) ?_ ?_
    rotate_left
    ·show Act.put _ (some 22) _ = _
     simp only [Act.put, s1_, s2_, s3_, i64_w, i32_w]
     rfl
    refine oq_ 10 23 12 2047 HT_.out fun K hK => ?_
    refine goes_ Tryd.func74 (by kernel_rfl) rfl #[.slice Ao24 t574.length co24, .slice Ao25 t577.length co25] (by rfl) rfl rfl ga_ ?_
    with_reducible refine (ratio_compare.calls kj2 _ _ t574 _ _ t577 t580 _ ?side1 ?side2 ?side3 ?side4 A20.out).mono ?_
    (case side1 => exact cU_ ((V_reads' HO576.out).2.2))
    (case side2 => exact (V_reads' HO576.out).2.1)
    (case side3 => exact cU_ ((V_reads' HO579.out).2.2))
    (case side4 => exact (V_reads' HO579.out).2.1)
    rintro e w' ⟨rfl, ⟨nd, rfl⟩⟩
    refine ⟨_, rfl, ?_⟩
    refine hK.out _ _ ⟨bc0_ BK570.out, bc1_ BK570.out, bc0_ BK571.out, bc1_ BK571.out⟩ (fun hHeld => ?_)
    clear hK K
    refine norm_ (a' := ?_) ?_ ?_
    rotate_left
    ·show Act.put _ (some 23) _ = _
     simp only [Act.put, s1_, s2_, s3_, i64_w, i32_w]
     rfl
    refine pq_ 11 4 12 4095 HT_.out ?_
    refine done_ (done_of HT_.out (by kernel_rfl)) ?_
    try go_wp2
    go_ret
    exact ⟨eW_, sU_⟩

end Go.Proofs.YtjjjoepnlhpjdaaDoor.Q

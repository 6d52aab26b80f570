import Derived.Test.YtjjjoepnlhpjdaaDoorQ0
import Derived.Test.YtjjjoepnlhpjdaaDoorQ1
import Derived.Test.YtjjjoepnlhpjdaaDoorQ3
namespace Go.Proofs.YtjjjoepnlhpjdaaDoor.Q
open Go.RowKit Go.Proofs.YtjjjoepnlhpjdaaDoorW.PrintWords Go.Proofs.YtjjjoepnlhpjdaaDoorW.PrintLast Go.Proofs.YtjjjoepnlhpjdaaDoorW.PrintMore
open Kd (R_below R_mono R_far R_types R_lower R_new' R_newM R_elder' R_base R_lt R_slice R_V R_lit V_below V_mono V_far V_lower V_slice V_reads' C_below freshB R_drew V_drew)
attribute [local go_sem] max2_int min2_int max_two min_two max_three min_three max_four min_four   -- for this text's walks alone
set_option linter.unusedVariables false
set_option linter.unusedSimpArgs false

def ratio_Power.l0 : Nat → Int → Int → List Int → List Int → List Int → List Int → Option (List Int × List Int × Int)
 | 0, _, _, _, _, _, _ => none
 | k + 1, x23, x24, x738000, x738001, x747000, x747001 => if x24 < x23 then ((ratio_mul.f k x747000 x738000).bind fun t747 => ((ratio_mul.f k x747001 x738001).bind fun t750 => (if (t747.length : Int) > 64 then (some (([] : List Int), ([] : List Int), 3)) else (if (t750.length : Int) > 64 then (some (([] : List Int), ([] : List Int), 3)) else (ratio_Power.l0 k x23 (wrap64 (x24 + 1)) x738000 x738001 t747 t750))))) else (some (x747000, x747001, 0))
def ratio_Power.f (k : Nat) (l0_0 : List Int) (l0_1 : List Int) (a1 : Int) : Option (List Int × List Int × Int) := (ratio_Valid.f k l0_0 l0_1).bind fun t739 => (if t739 = true then (if a1 < 0 then (some (([] : List Int), ([] : List Int), 2)) else (if a1 > 1000 then (some (([] : List Int), ([] : List Int), 2)) else (ratio_Power.l0 k a1 0 l0_0 l0_1 (([1] : List Int)) (([1] : List Int))))) else (some (([] : List Int), ([] : List Int), 1)))
def ratio_Power.T8 : Bool × List (List Nat × List Nat) := (true, [([], []), ([0], [0]), ([], []), ([2], [2]), ([1, 3], [1, 3]), ([], []), ([5], [5]), ([], []), ([7], [7]), ([6, 8, 4], [6, 8]), ([0, 1, 2, 3, 4, 5, 6], []), ([10, 4, 9, 0, 1, 2, 3, 4, 5, 6], [4, 10]), ([0, 1, 2, 3, 4, 5, 6, 7, 8, 9, 10, 11], []), ([12, 9, 11, 0, 1, 2, 3, 4, 5, 6, 7, 8, 9, 10, 11], [9, 12])])
def ratio_Power.B8 : List Nat := [0, 1, 0, 4, 15, 0, 32, 0, 128, 511, 127, 2047, 4095, 8191]
theorem ratio_Power.tab8 : rtab .any (opsOf Tryd.f44 8) = ratio_Power.T8 := by kernel_rfl
theorem ratio_Power.bits8 : waitsOk ratio_Power.T8.2 ratio_Power.B8 = true := by kernel_rfl
set_option maxHeartbeats 8000000 in
set_option maxRecDepth 100000 in
theorem ratio_Power.calls (k : Nat) (A0_0 : Option Addr) (c0_0 : Nat) (l0_0 : List Int) (A0_1 : Option Addr) (c0_1 : Nat) (l0_1 : List Int) (a1 : Int) (r1 : List Int) (r2 : List Int) (r3 : Int) (w : World) (hr0_0 : Kd.C (Kd.int .u32) w A0_0 l0_0.length l0_0) (hc0_0 : l0_0.length ≤ c0_0) (hr0_1 : Kd.C (Kd.int .u32) w A0_1 l0_1.length l0_1) (hc0_1 : l0_1.length ≤ c0_1) (h : ratio_Power.f k l0_0 l0_1 a1 = some (r1, r2, r3)) :
  Calls Tryd.prog 44 #[.agg #[.slice A0_0 l0_0.length c0_0, .slice A0_1 l0_1.length c0_1], .int .i64 a1] w fun e w' => ∃ v0_ v1_ : Value, e = .returned (.tuple #[.agg #[v0_, v1_], .int .i64 r3]) ∧ Kd.V (Kd.int .u32) 44 w' w.heap.size (fun k_ => (w.heap.size ≤ k_)) v0_ r1 ∧ Kd.V (Kd.int .u32) 44 w' w.heap.size (fun k_ => (w.heap.size ≤ k_)) v1_ r2 ∧ Below w.heap.size w w' := by
 have hu29 := Tryd.underlying29
 have HR0_0 := ak hr0_0
 have HC0_0 := ak hc0_0
 clear hr0_0 hc0_0
 have HR0_1 := ak hr0_1
 have HC0_1 := ak hc0_1
 clear hr0_1 hc0_1
 have HB := ak (Below.refl w.heap.size w)
 have H := h
 clear h
 unfold ratio_Power.f at H
 revert H
 refine bd_ fun t739 A3 H => ?_
 by_cases c4 : t739 = true
 ·subst c4
  rw [if_pos rfl] at H
  by_cases c5 : a1 < 0
  ·rw [if_pos c5] at H
   have c5b0 := decide_eq_true c5
   clear c5
   simp only [Option.some.injEq, Prod.mk.injEq] at H
   obtain ⟨rfl, rfl, rfl⟩ := H
   go_enter Tryd.func44, Tryd.ntmps44
   go_wp2_with (first | ((with_reducible refine gate_dst (N := 2) rfl ?_); (try (refine gate_guard (by rfl) ?_; dsimp only)); refine bx_ 2 29 #[.slice A0_0 l0_0.length c0_0, .slice A0_1 l0_1.length c0_1] ?_; intro gb737 hg w6 hbox hb; refine nx4_ (below_step (bU_ HB.out) hb) (hbox) ((hs_ hg (below_size (bU_ HB.out)))) ((hs_ hg (below_size (bU_ HB.out)))) ?_; clear HB; intro HB BK737 GW737 GE737; clear hb hbox hg) | ((with_reducible refine gate_dst (N := 4) rfl ?_); (try (refine gate_guard (by rfl) ?_; dsimp only)); refine bx_ 4 29 #[.slice none 0 0, .slice none 0 0] ?_; intro gb738 hg w7 hbox hb; refine nx7_ (blk_below (kU_ BK737.out) hb) (below_step sU_ hb) (hbox) ((hs_ hg (below_size sU_) : w.heap.size ≤ gb738)) ((hs_ hg (below_size sU_) : w.heap.size ≤ gb738)) ((hl_ hg (kU_ BK737.out))) ((hm_ hg (kU_ BK737.out))) ?_; clear BK737 HB; intro BK737 HB BK738 GW738 GE738 NB737_738 NB738_737; clear hb hbox hg; have hnb8 := NB737_738.out; have hnc8 := NB738_737.out; have hcz9_0 := bc0_ BK737.out; have hcz9_1 := bc1_ BK737.out; have hfz9_0 := blk_frozen BK737.out 0; have hfz9_1 := blk_frozen BK737.out 1) | ((with_reducible refine gate_callee (f := 30) rfl ?_); refine gl_ (some 9) Tryd.func30 #[.agg #[.slice A0_0 l0_0.length c0_0, .slice A0_1 l0_1.length c0_1]] ?_; (with_reducible refine (ratio_Valid.calls k _ _ l0_0 _ _ l0_1 true _ ?side1 ?side2 ?side3 ?side4 A3.out).mono ?_); (case side1 => exact cU_ (C_below HR0_0.out HB.out)); (case side2 => exact HC0_0.out); (case side3 => exact cU_ (C_below HR0_1.out HB.out)); (case side4 => exact HC0_1.out); rintro e w10 ⟨rfl, hb⟩; refine ⟨_, rfl, ?_⟩; refine nx3_ (blk_below (kU_ BK737.out) hb) (blk_below (kU_ BK738.out) hb) (below_step sU_ hb) ?_; clear BK737 BK738 HB; intro BK737 BK738 HB; clear hb; have hcz11_0 := bc0_ BK738.out; have hcz11_1 := bc1_ BK738.out; have hfz11_0 := blk_frozen BK738.out 0; have hfz11_1 := blk_frozen BK738.out 1))
   refine bodyPost_ret (results_ct rfl _ _ gb738 29 #[.slice none 0 0, .slice none 0 0] (0, 0) _ rfl kp_ Tryd.underlying29 rfl (by kernel_rfl)) rfl ?_
   exact ⟨_, _, eW_, Kd.V_nil _ _ _ _ _, Kd.V_nil _ _ _ _ _, sU_⟩
  ·rw [if_neg c5] at H
   have c5b0 := decide_eq_false c5
   clear c5
   by_cases c12 : a1 > 1000
   ·rw [if_pos c12] at H
    have c12b0 : decide (1000 < a1) = true := decide_eq_true c12
    clear c12
    simp only [Option.some.injEq, Prod.mk.injEq] at H
    obtain ⟨rfl, rfl, rfl⟩ := H
    go_enter Tryd.func44, Tryd.ntmps44
    go_wp2_with (first | ((with_reducible refine gate_dst (N := 2) rfl ?_); (try (refine gate_guard (by rfl) ?_; dsimp only)); refine bx_ 2 29 #[.slice A0_0 l0_0.length c0_0, .slice A0_1 l0_1.length c0_1] ?_; intro gb737 hg w13 hbox hb; refine nx4_ (below_step (bU_ HB.out) hb) (hbox) ((hs_ hg (below_size (bU_ HB.out)))) ((hs_ hg (below_size (bU_ HB.out)))) ?_; clear HB; intro HB BK737 GW737 GE737; clear hb hbox hg) | ((with_reducible refine gate_dst (N := 4) rfl ?_); (try (refine gate_guard (by rfl) ?_; dsimp only)); refine bx_ 4 29 #[.slice none 0 0, .slice none 0 0] ?_; intro gb738 hg w14 hbox hb; refine nx7_ (blk_below (kU_ BK737.out) hb) (below_step sU_ hb) (hbox) ((hs_ hg (below_size sU_) : w.heap.size ≤ gb738)) ((hs_ hg (below_size sU_) : w.heap.size ≤ gb738)) ((hl_ hg (kU_ BK737.out))) ((hm_ hg (kU_ BK737.out))) ?_; clear BK737 HB; intro BK737 HB BK738 GW738 GE738 NB737_738 NB738_737; clear hb hbox hg; have hnb15 := NB737_738.out; have hnc15 := NB738_737.out; have hcz16_0 := bc0_ BK737.out; have hcz16_1 := bc1_ BK737.out; have hfz16_0 := blk_frozen BK737.out 0; have hfz16_1 := blk_frozen BK737.out 1) | ((with_reducible refine gate_callee (f := 30) rfl ?_); refine gl_ (some 9) Tryd.func30 #[.agg #[.slice A0_0 l0_0.length c0_0, .slice A0_1 l0_1.length c0_1]] ?_; (with_reducible refine (ratio_Valid.calls k _ _ l0_0 _ _ l0_1 true _ ?side1 ?side2 ?side3 ?side4 A3.out).mono ?_); (case side1 => exact cU_ (C_below HR0_0.out HB.out)); (case side2 => exact HC0_0.out); (case side3 => exact cU_ (C_below HR0_1.out HB.out)); (case side4 => exact HC0_1.out); rintro e w17 ⟨rfl, hb⟩; refine ⟨_, rfl, ?_⟩; refine nx3_ (blk_below (kU_ BK737.out) hb) (blk_below (kU_ BK738.out) hb) (below_step sU_ hb) ?_; clear BK737 BK738 HB; intro BK737 BK738 HB; clear hb; have hcz18_0 := bc0_ BK738.out; have hcz18_1 := bc1_ BK738.out; have hfz18_0 := blk_frozen BK738.out 0; have hfz18_1 := blk_frozen BK738.out 1))
    refine bodyPost_ret (results_ct rfl _ _ gb738 29 #[.slice none 0 0, .slice none 0 0] (0, 0) _ rfl kp_ Tryd.underlying29 rfl (by kernel_rfl)) rfl ?_
    exact ⟨_, _, eW_, Kd.V_nil _ _ _ _ _, Kd.V_nil _ _ _ _ _, sU_⟩
   ·rw [if_neg c12] at H
    have c12b0 : decide (1000 < a1) = false := decide_eq_false c12
    clear c12
    obtain ⟨y740, hy740⟩ : ∃ y_ : List Int, y_ = (([1] : List Int)) := ⟨_, rfl⟩
    replace H : (ratio_Power.l0 k a1 0 l0_0 l0_1 y740 (([1] : List Int))) = some (r1, r2, r3) := by first | (rw [hy740]; with_reducible exact H) | (have H2_ := (Option.bind_some _ _).symm.trans H; rw [hy740]; with_reducible exact H2_) | (have H2_ := (Option.bind_some _ _).symm.trans H; with_reducible exact H2_) | with_reducible exact H | (rw [hy740]; exact H) | exact H
    have Ny740 := ak hy740
    clear hy740
    obtain ⟨y743, hy743⟩ : ∃ y_ : List Int, y_ = (([1] : List Int)) := ⟨_, rfl⟩
    replace H : (ratio_Power.l0 k a1 0 l0_0 l0_1 y740 y743) = some (r1, r2, r3) := by first | (rw [hy743]; with_reducible exact H) | (have H2_ := (Option.bind_some _ _).symm.trans H; rw [hy743]; with_reducible exact H2_) | (have H2_ := (Option.bind_some _ _).symm.trans H; with_reducible exact H2_) | with_reducible exact H | (rw [hy743]; exact H) | exact H
    have Ny743 := ak hy743
    clear hy743
    have H' := ak H
    clear H
    go_enter Tryd.func44, Tryd.ntmps44
    go_wp2_with (first | ((with_reducible refine gate_dst (N := 2) rfl ?_); (try (refine gate_guard (by rfl) ?_; dsimp only)); refine bx_ 2 29 #[.slice A0_0 l0_0.length c0_0, .slice A0_1 l0_1.length c0_1] ?_; intro gb737 hg w19 hbox hb; refine nx4_ (below_step (bU_ HB.out) hb) (hbox) ((hs_ hg (below_size (bU_ HB.out)))) ((hs_ hg (below_size (bU_ HB.out)))) ?_; clear HB; intro HB BK737 GW737 GE737; clear hb hbox hg) | ((with_reducible refine gate_dst (N := 4) rfl ?_); (try (refine gate_guard (by rfl) ?_; dsimp only)); refine bx_ 4 29 #[.slice none 0 0, .slice none 0 0] ?_; intro gb738 hg w20 hbox hb; refine nx7_ (blk_below (kU_ BK737.out) hb) (below_step sU_ hb) (hbox) ((hs_ hg (below_size sU_) : w.heap.size ≤ gb738)) ((hs_ hg (below_size sU_) : w.heap.size ≤ gb738)) ((hl_ hg (kU_ BK737.out))) ((hm_ hg (kU_ BK737.out))) ?_; clear BK737 HB; intro BK737 HB BK738 GW738 GE738 NB737_738 NB738_737; clear hb hbox hg; have hnb21 := NB737_738.out; have hnc21 := NB738_737.out; have hcz22_0 := bc0_ BK737.out; have hcz22_1 := bc1_ BK737.out; have hfz22_0 := blk_frozen BK737.out 0; have hfz22_1 := blk_frozen BK737.out 1) | ((with_reducible refine gate_callee (f := 30) rfl ?_); refine gl_ (some 9) Tryd.func30 #[.agg #[.slice A0_0 l0_0.length c0_0, .slice A0_1 l0_1.length c0_1]] ?_; (with_reducible refine (ratio_Valid.calls k _ _ l0_0 _ _ l0_1 true _ ?side1 ?side2 ?side3 ?side4 A3.out).mono ?_); (case side1 => exact cU_ (C_below HR0_0.out HB.out)); (case side2 => exact HC0_0.out); (case side3 => exact cU_ (C_below HR0_1.out HB.out)); (case side4 => exact HC0_1.out); rintro e w23 ⟨rfl, hb⟩; refine ⟨_, rfl, ?_⟩; refine nx3_ (blk_below (kU_ BK737.out) hb) (blk_below (kU_ BK738.out) hb) (below_step sU_ hb) ?_; clear BK737 BK738 HB; intro BK737 BK738 HB; clear hb) | ((with_reducible refine gate_dst (N := 20) rfl ?_); (try (refine gate_guard (by rfl) ?_; dsimp only)); refine R_lit (Kd.int .u32) _ 44 ?hg (N := 20) ?hd (xs := ([1] : List Int)) (inner := [.int .u32 1]) (ok := fun _ => True) (okp := fun _ => True) ?hr ?hp (fun _ hk => hk) trivial (Below.refl _ _) (Nat.le_refl _) (by simp) ?_; (case hd => rfl); (case hg => rfl); (case hr => first | (go_simp; done) | (go_simp; rfl)); (case hp => exact (Reps.one (show Kd.M (Kd.int .u32) _ _ _ 1 [.int .u32 1] from rfl) (Reps.none _ _))); intro v741 w24 ho25 hb hg_ hnew_; clear hg_ hnew_; (first | rw [← Ny740.out] at ho25 | (simp only [Int.reduceToNat] at ho25; rw [← Ny740.out] at ho25)); refine nx4_ (R_lower (R_newM (M := fun k_ => (w.heap.size ≤ k_)) ho25 (below_size sU_) (fun k_ h_ => h_)) (below_size sU_)) (blk_below (kU_ BK737.out) hb) (blk_below (kU_ BK738.out) hb) (below_step sU_ hb) ?_; clear BK737 BK738 HB; intro HO742 BK737 BK738 HB; clear hb ho25) | ((with_reducible refine gate_dst (N := 21) rfl ?_); (try (refine gate_guard (by rfl) ?_; dsimp only)); refine R_lit (Kd.int .u32) _ 44 ?hg (N := 21) ?hd (xs := ([1] : List Int)) (inner := [.int .u32 1]) (ok := fun _ => True) (okp := fun _ => True) ?hr ?hp (fun _ hk => hk) trivial (Below.refl _ _) (Nat.le_refl _) (by simp) ?_; (case hd => rfl); (case hg => rfl); (case hr => first | (go_simp; done) | (go_simp; rfl)); (case hp => exact (Reps.one (show Kd.M (Kd.int .u32) _ _ _ 1 [.int .u32 1] from rfl) (Reps.none _ _))); intro v744 w26 ho27 hb hg_ hnew_; clear hg_ hnew_; (first | rw [← Ny743.out] at ho27 | (simp only [Int.reduceToNat] at ho27; rw [← Ny743.out] at ho27)); refine nx5_ (R_elder' (rU_ HO742.out) (R_base ho27) hb) (R_lower (R_new' (R_newM (M := fun k_ => (w.heap.size ≤ k_)) ho27 (below_size sU_) (fun k_ h_ => h_)) (R_lt (rU_ HO742.out))) (below_size sU_)) (blk_below (kU_ BK737.out) hb) (blk_below (kU_ BK738.out) hb) (below_step sU_ hb) ?_; clear HO742 BK737 BK738 HB; intro HO742 HO745 BK737 BK738 HB; clear hb ho27; obtain ⟨Ao28, co28, eo28⟩ := R_slice HO745.out; subst eo28; obtain ⟨Ao29, co29, eo29⟩ := R_slice HO742.out; subst eo29) | ((with_reducible refine gate_dst (N := 6) rfl ?_); (try (refine gate_guard (by rfl) ?_; dsimp only)); refine bx_ 6 29 #[.slice none 0 0, .slice none 0 0] ?_; intro gb746 hg w30 hbox hb; refine nx12_ (R_below (rU_ HO742.out) hb) (R_below (rU_ HO745.out) hb) (blk_below (kU_ BK737.out) hb) (blk_below (kU_ BK738.out) hb) (below_step sU_ hb) (hbox) ((hs_ hg (below_size sU_) : w.heap.size ≤ gb746)) ((hs_ hg (below_size sU_) : w.heap.size ≤ gb746)) ((hl_ hg (kU_ BK737.out))) ((hm_ hg (kU_ BK737.out))) ((hl_ hg (kU_ BK738.out))) ((hm_ hg (kU_ BK738.out))) ?_; clear HO742 HO745 BK737 BK738 HB; intro HO742 HO745 BK737 BK738 HB BK746 GW746 GE746 NB737_746 NB746_737 NB738_746 NB746_738; clear hb hbox hg; have hnb31 := NB746_737.out; have hnc31 := NB737_746.out; have hnb32 := NB746_738.out; have hnc32 := NB738_746.out; have hcz33_0 := bc0_ BK746.out; have hcz33_1 := bc1_ BK746.out; have hfz33_0 := blk_frozen BK746.out 0; have hfz33_1 := blk_frozen BK746.out 1))
    go_loopg [24] k (fun kq v24 w' => ∃ (x24_1 : Int) (x747000_1 : List Int) (x747001_1 : List Int) (u747000 : Value) (u747001 : Value), v24 = .int .i64 x24_1 ∧ Aside0 (ratio_Power.l0 kq a1 x24_1 l0_0 l0_1 x747000_1 x747001_1 = some (r1, r2, r3)) ∧ Aside0 (kq ≤ k) ∧ Aside0 (Kd.V (Kd.int .u32) 44 w' w.heap.size (fun k_ => (w.heap.size ≤ k_) ∧ k_ ≠ gb737 ∧ k_ ≠ gb738 ∧ k_ ≠ gb746) u747000 x747000_1) ∧ Aside0 (Kd.V (Kd.int .u32) 44 w' w.heap.size (fun k_ => (w.heap.size ≤ k_) ∧ k_ ≠ gb737 ∧ k_ ≠ gb738 ∧ k_ ≠ gb746) u747001 x747001_1) ∧ Aside0 (w'.heap[gb737]? = some (.cells #[(.slice A0_0 l0_0.length c0_0), (.slice A0_1 l0_1.length c0_1)] 29 (0, 0))) ∧ Aside0 (w'.heap[gb738]? = some (.cells #[(.slice none 0 0), (.slice none 0 0)] 29 (0, 0))) ∧ Aside0 (w'.heap[gb746]? = some (.cells #[u747000, u747001] 29 (0, 0))) ∧ Aside0 (Below w.heap.size w w'))
    case atStart => exact ⟨(0), (y740), (y743), (.slice Ao29 y740.length co29), (.slice Ao28 y743.length co28), gb_, H', ⟨Nat.le_refl _⟩, ⟨R_V (by (with_reducible repeat (first | apply Kd.R_alloc | apply Kd.R_drewN | apply R_drew)); exact R_mono (R_far (p := ⟨gb746, 1, none⟩) (R_far (p := ⟨gb746, 0, none⟩) (R_types (R_types (R_types (R_types HO742.out BK737.out (by decide)) BK738.out (by decide)) BK746.out (by decide)) BK746.out (by decide)) (fun _ hk => hk.2) (.slice Ao29 y740.length co29)) (fun _ hk => hk.2) (.slice Ao28 y743.length co28)) (fun _ hk => ⟨hk.1.1.1.1.1.1, ⟨hk.1.1.1.2, ⟨hk.1.1.2, hk.1.2⟩⟩⟩))⟩, ⟨R_V (by (with_reducible repeat (first | apply Kd.R_alloc | apply Kd.R_drewN | apply R_drew)); exact R_mono (R_far (p := ⟨gb746, 1, none⟩) (R_far (p := ⟨gb746, 0, none⟩) (R_types (R_types (R_types (R_types HO745.out BK737.out (by decide)) BK738.out (by decide)) BK746.out (by decide)) BK746.out (by decide)) (fun _ hk => hk.2) (.slice Ao29 y740.length co29)) (fun _ hk => hk.2) (.slice Ao28 y743.length co28)) (fun _ hk => ⟨hk.1.1.1.1.1.1, ⟨hk.1.1.1.2, ⟨hk.1.1.2, hk.1.2⟩⟩⟩))⟩, ⟨by (with_reducible repeat (first | refine blk_drewN ?_ _ | refine blk_drew ?_ | refine blk_alloc ?_ _)); refine blk_far ?_ NB737_746.out _; (with_reducible repeat (first | refine blk_drewN ?_ _ | refine blk_drew ?_ | refine blk_alloc ?_ _)); refine blk_far ?_ NB737_746.out _; (with_reducible repeat (first | refine blk_drewN ?_ _ | refine blk_drew ?_ | refine blk_alloc ?_ _)); exact BK737.out⟩, ⟨by (with_reducible repeat (first | refine blk_drewN ?_ _ | refine blk_drew ?_ | refine blk_alloc ?_ _)); refine blk_far ?_ NB738_746.out _; (with_reducible repeat (first | refine blk_drewN ?_ _ | refine blk_drew ?_ | refine blk_alloc ?_ _)); refine blk_far ?_ NB738_746.out _; (with_reducible repeat (first | refine blk_drewN ?_ _ | refine blk_drew ?_ | refine blk_alloc ?_ _)); exact BK738.out⟩, ⟨by (with_reducible repeat (first | refine blk_drewN ?_ _ | refine blk_drew ?_ | refine blk_alloc ?_ _)); refine blk_put (cs := #[.slice Ao29 y740.length co29, .slice none 0 0]) ?_ 1 _ rfl; (with_reducible repeat (first | refine blk_drewN ?_ _ | refine blk_drew ?_ | refine blk_alloc ?_ _)); refine blk_put (cs := #[.slice none 0 0, .slice none 0 0]) ?_ 0 _ rfl; (with_reducible repeat (first | refine blk_drewN ?_ _ | refine blk_drew ?_ | refine blk_alloc ?_ _)); exact BK746.out⟩, ⟨sU_⟩⟩
    case round =>
     clear H'
     (try clear c1); (try clear c2); (try clear p2); (try clear c3); (try clear c4); (try clear c5); (try clear c5b0); (try clear c8); (try clear c12); (try clear c12b0); (try clear c15); (try clear c21); (try clear c30); (try clear c31); (try clear c32); (try clear hcz11_0); (try clear hcz11_1); (try clear hcz16_0); (try clear hcz16_1); (try clear hcz18_0); (try clear hcz18_1); (try clear hcz22_0); (try clear hcz22_1); (try clear hcz33_0); (try clear hcz33_1); (try clear hcz9_0); (try clear hcz9_1); (try clear hfz11_0); (try clear hfz11_1); (try clear hfz16_0); (try clear hfz16_1); (try clear hfz18_0); (try clear hfz18_1); (try clear hfz22_0); (try clear hfz22_1); (try clear hfz33_0); (try clear hfz33_1); (try clear hfz9_0); (try clear hfz9_1)
     obtain ⟨x24_1, x747000_1, x747001_1, u747000, u747001, rfl, HA, HK1, HO_747000, HO_747001, BK737, BK738, BK746, HB⟩ := hrel
     cases gk with
     | zero => exact absurd HA.out (by simp [ratio_Power.l0])
     | succ k1 =>
      have H := HA.out
      clear HA
      simp only [ratio_Power.l0] at H
      by_cases c34 : x24_1 < a1
      ·rw [if_pos c34] at H
       have c34b0 := decide_eq_true c34
       clear c34
       revert H
       refine bd_ fun t747 A35 H => ?_
       revert H
       refine bd_ fun t750 A36 H => ?_
       by_cases c37 : (t747.length : Int) > 64
       ·rw [if_pos c37] at H
        have c37b0 : decide (64 < (t747.length : Int)) = true := decide_eq_true c37
        have c37b1 : decide (64 < t747.length) = true := decide_eq_true (by omega)
        clear c37
        simp only [Option.some.injEq, Prod.mk.injEq] at H
        obtain ⟨rfl, rfl, rfl⟩ := H
        try go_wp2
        refine nx6_ (V_drew HO_747000.out) (V_drew HO_747001.out) (blk_drew BK737.out) (blk_drew BK738.out) (blk_drew BK746.out) (below_drew1 HB.out) ?_
        clear HO_747000 HO_747001 BK737 BK738 BK746 HB
        intro HO_747000 HO_747001 BK737 BK738 BK746 HB
        obtain ⟨Ao39, co39, eo39⟩ := V_slice HO_747000.out
        (first | subst eo39 | (injection eo39 with f1_ f2_ f3_; have f4_ := f1_.symm; have f5_ := f3_.symm; clear f1_ f2_ f3_; subst f4_; subst f5_))
        refine start_ (n := 14) (S := fun w' => w'.cell? ⟨gb746, 0, none⟩ = some (.slice Ao39 x747000_1.length co39) ∧ w'.cell? ⟨gb746, 1, none⟩ = some (u747001) ∧ w'.cell? ⟨gb737, 0, none⟩ = some (.slice A0_0 l0_0.length c0_0) ∧ w'.cell? ⟨gb737, 1, none⟩ = some (.slice A0_1 l0_1.length c0_1)) (ds := [11, 13]) (bv 14 0) (by kernel_rfl) rfl rfl ⟨bc0_ BK746.out, bc1_ BK746.out, bc0_ BK737.out, bc1_ BK737.out⟩ (fun hHeld => ?_); refine with_tabW ratio_Power.tab8 ratio_Power.bits8 (fun HT_ HW_ => ?_)
        generalize wr.drew = w38 at HO_747000 HO_747001 BK737 BK738 BK746 HB hHeld ⊢
        refine pq_ 0 26 14 1 HT_.out ?_
        refine pq_ 2 28 14 5 HT_.out ?_
        refine pq_ 5 31 14 37 HT_.out ?_
        refine pq_ 7 33 14 165 HT_.out ?_
        refine tq_ 1 27 14 167 HT_.out HW_.out hHeld ?_
        refine tq_ 3 29 14 175 HT_.out HW_.out hHeld ?_
        refine tq_ 6 32 14 239 HT_.out HW_.out hHeld ?_
        refine tq_ 8 34 14 495 HT_.out HW_.out hHeld ?_
        refine oq_ 4 30 14 511 HT_.out fun K hK => ?_
        refine goes_ Tryd.func59 (by kernel_rfl) rfl #[.slice Ao39 x747000_1.length co39, .slice A0_0 l0_0.length c0_0] (by rfl) rfl rfl ga_ ?_
        with_reducible refine (ratio_mul.calls k1 _ _ x747000_1 _ _ l0_0 t747 _ ?side1 ?side2 ?side3 ?side4 A35.out).mono ?_
        (case side1 => exact cU_ ((V_reads' HO_747000.out).2.2))
        (case side2 => exact (V_reads' HO_747000.out).2.1)
        (case side3 => exact cU_ (C_below HR0_0.out HB.out))
        (case side4 => exact HC0_0.out)
        rintro e w40 ⟨v748, rfl, ho0, hb⟩
        refine ⟨_, rfl, ?_⟩
        refine nx7_ (V_below (vU_ HO_747000.out) hb) (V_below (vU_ HO_747001.out) hb) (V_lower (V_mono (ok' := fun k_ => (w.heap.size ≤ k_) ∧ k_ ≠ gb737 ∧ k_ ≠ gb738 ∧ k_ ≠ gb746) ho0 (fun k_ hk_ => ⟨(Nat.le_trans (below_size sU_) hk_), (freshB (kU_ BK737.out) k_ hk_), (freshB (kU_ BK738.out) k_ hk_), (freshB (kU_ BK746.out) k_ hk_)⟩)) (below_size sU_)) (blk_below (kU_ BK737.out) hb) (blk_below (kU_ BK738.out) hb) (blk_below (kU_ BK746.out) hb) (below_step sU_ hb) ?_
        clear HO_747000 HO_747001 BK737 BK738 BK746 HB
        intro HO_747000 HO_747001 HO749 BK737 BK738 BK746 HB
        (try clear hb)
        (try clear hb2)
        (try clear hk)
        (try clear hi)
        (try clear ho0)
        obtain ⟨Ao41, co41, eo41⟩ := V_slice HO_747001.out
        (first | subst eo41 | (injection eo41 with f1_ f2_ f3_; have f4_ := f1_.symm; have f5_ := f3_.symm; clear f1_ f2_ f3_; subst f4_; subst f5_))
        refine hK.out _ _ ⟨bc0_ BK746.out, bc1_ BK746.out, bc0_ BK737.out, bc1_ BK737.out⟩ (fun hHeld => ?_)
        clear hK K
        refine norm_ (a' := ?_) ?_ ?_
        rotate_left
        ·show Act.put _ (some 30) _ = _
         simp only [Act.put, s1_, s2_, s3_, i64_w, i32_w]
         rfl
        refine pq_ 10 36 14 1535 HT_.out ?_
        refine oq_ 9 35 14 2047 HT_.out fun K hK => ?_
        refine goes_ Tryd.func59 (by kernel_rfl) rfl #[.slice Ao41 x747001_1.length co41, .slice A0_1 l0_1.length c0_1] (by rfl) rfl rfl ga_ ?_
        with_reducible refine (ratio_mul.calls k1 _ _ x747001_1 _ _ l0_1 t750 _ ?side1 ?side2 ?side3 ?side4 A36.out).mono ?_
        (case side1 => exact cU_ ((V_reads' HO_747001.out).2.2))
        (case side2 => exact (V_reads' HO_747001.out).2.1)
        (case side3 => exact cU_ (C_below HR0_1.out HB.out))
        (case side4 => exact HC0_1.out)
        rintro e w42 ⟨v751, rfl, ho0, hb⟩
        refine ⟨_, rfl, ?_⟩
        refine nx8_ (V_below (vU_ HO_747000.out) hb) (V_below (vU_ HO_747001.out) hb) (V_below (vU_ HO749.out) hb) (V_lower (V_mono (ok' := fun k_ => (w.heap.size ≤ k_) ∧ k_ ≠ gb737 ∧ k_ ≠ gb738 ∧ k_ ≠ gb746) ho0 (fun k_ hk_ => ⟨(Nat.le_trans (below_size sU_) hk_), (freshB (kU_ BK737.out) k_ hk_), (freshB (kU_ BK738.out) k_ hk_), (freshB (kU_ BK746.out) k_ hk_)⟩)) (below_size sU_)) (blk_below (kU_ BK737.out) hb) (blk_below (kU_ BK738.out) hb) (blk_below (kU_ BK746.out) hb) (below_step sU_ hb) ?_
        clear HO_747000 HO_747001 HO749 BK737 BK738 BK746 HB
        intro HO_747000 HO_747001 HO749 HO752 BK737 BK738 BK746 HB
        (try clear hb)
        (try clear hb2)
        (try clear hk)
        (try clear hi)
        (try clear ho0)
        obtain ⟨Ao43, co43, eo43⟩ := V_slice HO749.out
        (first | subst eo43 | (injection eo43 with f1_ f2_ f3_; have f4_ := f1_.symm; have f5_ := f3_.symm; clear f1_ f2_ f3_; subst f4_; subst f5_))
        obtain ⟨Ao45, co45, eo45⟩ := V_slice HO752.out
        (first | subst eo45 | (injection eo45 with f1_ f2_ f3_; have f4_ := f1_.symm; have f5_ := f3_.symm; clear f1_ f2_ f3_; subst f4_; subst f5_))
        refine hK.out _ _ ⟨bc0_ BK746.out, bc1_ BK746.out, bc0_ BK737.out, bc1_ BK737.out⟩ (fun hHeld => ?_)
        clear hK K
        refine norm_ (a' := ?_) ?_ ?_
        rotate_left
        ·show Act.put _ (some 35) _ = _
         simp only [Act.put, s1_, s2_, s3_, i64_w, i32_w]
         rfl
        refine last_ (i := 11) (N := none) #[true, true, true, true, true, true, true, true, true, true, true, true, false, false] rfl rfl (one_of HT_.out (by kernel_rfl)) (by decide) (fun K hK => ?_)
        have hs44 : w42.cell? ⟨gb746, 0, none⟩ = some (.slice Ao39 x747000_1.length co39) := bc0_ BK746.out
        have hfs44 := blk_frozen BK746.out 0
        have hns44_0 := NB737_746.out
        have hns44_1 := NB738_746.out
        have hms44_0 := NB746_737.out
        have hms44_1 := NB746_738.out
        refine skip_ (w1 := ?_) (by rfl) rfl ?_ ?_
        rotate_left
        ·go_simp
         rfl
        refine hK.out _ _ ?_
        clear hK K
        refine pq_ 12 37 14 8191 HT_.out ?_
        refine last_ (i := 13) (N := none) #[true, true, true, true, true, true, true, true, true, true, true, true, true, true] rfl rfl (one_of HT_.out (by kernel_rfl)) (by decide) (fun K hK => ?_)
        have hs46 : w42.cell? ⟨gb746, 1, none⟩ = some (.slice Ao41 x747001_1.length co41) := bc1_ BK746.out
        have hfs46 := blk_frozen BK746.out 1
        have hns46_0 := NB737_746.out
        have hns46_1 := NB738_746.out
        have hms46_0 := NB746_737.out
        have hms46_1 := NB746_738.out
        refine skip_ (w1 := ?_) (by rfl) rfl ?_ ?_
        rotate_left
        ·go_simp
         rfl
        refine hK.out _ _ ?_
        clear hK K
        refine done_ (done_of HT_.out (by kernel_rfl)) ?_
        have hnb47 := NB746_737.out
        have hnc47 := NB737_746.out
        have hnb48 := NB746_738.out
        have hnc48 := NB738_746.out
        have hcz49_0 := bc0_ BK746.out
        have hcz49_1 := bc1_ BK746.out
        have hfz49_0 := blk_frozen BK746.out 0
        have hfz49_1 := blk_frozen BK746.out 1
        have hnb50 := NB738_737.out
        have hnc50 := NB737_738.out
        have hcz51_0 := bc0_ BK738.out
        have hcz51_1 := bc1_ BK738.out
        have hfz51_0 := blk_frozen BK738.out 0
        have hfz51_1 := blk_frozen BK738.out 1
        try go_wp2
        refine bodyPost_ret (results_ct rfl _ _ gb738 29 #[.slice none 0 0, .slice none 0 0] (0, 0) _ rfl kp_ Tryd.underlying29 rfl (by kernel_rfl)) rfl ?_
        exact ⟨_, _, eW_, Kd.V_nil _ _ _ _ _, Kd.V_nil _ _ _ _ _, sU_⟩
       ·rw [if_neg c37] at H
        have c37b0 : decide (64 < (t747.length : Int)) = false := decide_eq_false c37
        have c37b1 : decide (64 < t747.length) = false := decide_eq_false (by omega)
        clear c37
        by_cases c52 : (t750.length : Int) > 64
        ·rw [if_pos c52] at H
         have c52b0 : decide (64 < (t750.length : Int)) = true := decide_eq_true c52
         have c52b1 : decide (64 < t750.length) = true := decide_eq_true (by omega)
         clear c52
         simp only [Option.some.injEq, Prod.mk.injEq] at H
         obtain ⟨rfl, rfl, rfl⟩ := H
         try go_wp2
         refine nx6_ (V_drew HO_747000.out) (V_drew HO_747001.out) (blk_drew BK737.out) (blk_drew BK738.out) (blk_drew BK746.out) (below_drew1 HB.out) ?_
         clear HO_747000 HO_747001 BK737 BK738 BK746 HB
         intro HO_747000 HO_747001 BK737 BK738 BK746 HB
         obtain ⟨Ao54, co54, eo54⟩ := V_slice HO_747000.out
         (first | subst eo54 | (injection eo54 with f1_ f2_ f3_; have f4_ := f1_.symm; have f5_ := f3_.symm; clear f1_ f2_ f3_; subst f4_; subst f5_))
         refine start_ (n := 14) (S := fun w' => w'.cell? ⟨gb746, 0, none⟩ = some (.slice Ao54 x747000_1.length co54) ∧ w'.cell? ⟨gb746, 1, none⟩ = some (u747001) ∧ w'.cell? ⟨gb737, 0, none⟩ = some (.slice A0_0 l0_0.length c0_0) ∧ w'.cell? ⟨gb737, 1, none⟩ = some (.slice A0_1 l0_1.length c0_1)) (ds := [11, 13]) (bv 14 0) (by kernel_rfl) rfl rfl ⟨bc0_ BK746.out, bc1_ BK746.out, bc0_ BK737.out, bc1_ BK737.out⟩ (fun hHeld => ?_); refine with_tabW ratio_Power.tab8 ratio_Power.bits8 (fun HT_ HW_ => ?_)
         generalize wr.drew = w53 at HO_747000 HO_747001 BK737 BK738 BK746 HB hHeld ⊢
         refine pq_ 0 26 14 1 HT_.out ?_
         refine pq_ 2 28 14 5 HT_.out ?_
         refine pq_ 5 31 14 37 HT_.out ?_
         refine pq_ 7 33 14 165 HT_.out ?_
         refine tq_ 1 27 14 167 HT_.out HW_.out hHeld ?_
         refine tq_ 3 29 14 175 HT_.out HW_.out hHeld ?_
         refine tq_ 6 32 14 239 HT_.out HW_.out hHeld ?_
         refine tq_ 8 34 14 495 HT_.out HW_.out hHeld ?_
         refine oq_ 4 30 14 511 HT_.out fun K hK => ?_
         refine goes_ Tryd.func59 (by kernel_rfl) rfl #[.slice Ao54 x747000_1.length co54, .slice A0_0 l0_0.length c0_0] (by rfl) rfl rfl ga_ ?_
         with_reducible refine (ratio_mul.calls k1 _ _ x747000_1 _ _ l0_0 t747 _ ?side1 ?side2 ?side3 ?side4 A35.out).mono ?_
         (case side1 => exact cU_ ((V_reads' HO_747000.out).2.2))
         (case side2 => exact (V_reads' HO_747000.out).2.1)
         (case side3 => exact cU_ (C_below HR0_0.out HB.out))
         (case side4 => exact HC0_0.out)
         rintro e w55 ⟨v748, rfl, ho0, hb⟩
         refine ⟨_, rfl, ?_⟩
         refine nx7_ (V_below (vU_ HO_747000.out) hb) (V_below (vU_ HO_747001.out) hb) (V_lower (V_mono (ok' := fun k_ => (w.heap.size ≤ k_) ∧ k_ ≠ gb737 ∧ k_ ≠ gb738 ∧ k_ ≠ gb746) ho0 (fun k_ hk_ => ⟨(Nat.le_trans (below_size sU_) hk_), (freshB (kU_ BK737.out) k_ hk_), (freshB (kU_ BK738.out) k_ hk_), (freshB (kU_ BK746.out) k_ hk_)⟩)) (below_size sU_)) (blk_below (kU_ BK737.out) hb) (blk_below (kU_ BK738.out) hb) (blk_below (kU_ BK746.out) hb) (below_step sU_ hb) ?_
         clear HO_747000 HO_747001 BK737 BK738 BK746 HB
         intro HO_747000 HO_747001 HO749 BK737 BK738 BK746 HB
         (try clear hb)
         (try clear hb2)
         (try clear hk)
         (try clear hi)
         (try clear ho0)
         obtain ⟨Ao56, co56, eo56⟩ := V_slice HO_747001.out
         (first | subst eo56 | (injection eo56 with f1_ f2_ f3_; have f4_ := f1_.symm; have f5_ := f3_.symm; clear f1_ f2_ f3_; subst f4_; subst f5_))
         refine hK.out _ _ ⟨bc0_ BK746.out, bc1_ BK746.out, bc0_ BK737.out, bc1_ BK737.out⟩ (fun hHeld => ?_)
         clear hK K
         refine norm_ (a' := ?_) ?_ ?_
         rotate_left
         ·show Act.put _ (some 30) _ = _
          simp only [Act.put, s1_, s2_, s3_, i64_w, i32_w]
          rfl
         refine pq_ 10 36 14 1535 HT_.out ?_
         refine oq_ 9 35 14 2047 HT_.out fun K hK => ?_
         refine goes_ Tryd.func59 (by kernel_rfl) rfl #[.slice Ao56 x747001_1.length co56, .slice A0_1 l0_1.length c0_1] (by rfl) rfl rfl ga_ ?_
         with_reducible refine (ratio_mul.calls k1 _ _ x747001_1 _ _ l0_1 t750 _ ?side1 ?side2 ?side3 ?side4 A36.out).mono ?_
         (case side1 => exact cU_ ((V_reads' HO_747001.out).2.2))
         (case side2 => exact (V_reads' HO_747001.out).2.1)
         (case side3 => exact cU_ (C_below HR0_1.out HB.out))
         (case side4 => exact HC0_1.out)
         rintro e w57 ⟨v751, rfl, ho0, hb⟩
         refine ⟨_, rfl, ?_⟩
         refine nx8_ (V_below (vU_ HO_747000.out) hb) (V_below (vU_ HO_747001.out) hb) (V_below (vU_ HO749.out) hb) (V_lower (V_mono (ok' := fun k_ => (w.heap.size ≤ k_) ∧ k_ ≠ gb737 ∧ k_ ≠ gb738 ∧ k_ ≠ gb746) ho0 (fun k_ hk_ => ⟨(Nat.le_trans (below_size sU_) hk_), (freshB (kU_ BK737.out) k_ hk_), (freshB (kU_ BK738.out) k_ hk_), (freshB (kU_ BK746.out) k_ hk_)⟩)) (below_size sU_)) (blk_below (kU_ BK737.out) hb) (blk_below (kU_ BK738.out) hb) (blk_below (kU_ BK746.out) hb) (below_step sU_ hb) ?_
         clear HO_747000 HO_747001 HO749 BK737 BK738 BK746 HB
         intro HO_747000 HO_747001 HO749 HO752 BK737 BK738 BK746 HB
         (try clear hb)
         (try clear hb2)
         (try clear hk)
         (try clear hi)
         (try clear ho0)
         obtain ⟨Ao58, co58, eo58⟩ := V_slice HO749.out
         (first | subst eo58 | (injection eo58 with f1_ f2_ f3_; have f4_ := f1_.symm; have f5_ := f3_.symm; clear f1_ f2_ f3_; subst f4_; subst f5_))
         obtain ⟨Ao60, co60, eo60⟩ := V_slice HO752.out
         (first | subst eo60 | (injection eo60 with f1_ f2_ f3_; have f4_ := f1_.symm; have f5_ := f3_.symm; clear f1_ f2_ f3_; subst f4_; subst f5_))
         refine hK.out _ _ ⟨bc0_ BK746.out, bc1_ BK746.out, bc0_ BK737.out, bc1_ BK737.out⟩ (fun hHeld => ?_)
         clear hK K
         refine norm_ (a' := ?_) ?_ ?_
         rotate_left
         ·show Act.put _ (some 35) _ = _
          simp only [Act.put, s1_, s2_, s3_, i64_w, i32_w]
          rfl
         refine last_ (i := 11) (N := none) #[true, true, true, true, true, true, true, true, true, true, true, true, false, false] rfl rfl (one_of HT_.out (by kernel_rfl)) (by decide) (fun K hK => ?_)
         have hs59 : w57.cell? ⟨gb746, 0, none⟩ = some (.slice Ao54 x747000_1.length co54) := bc0_ BK746.out
         have hfs59 := blk_frozen BK746.out 0
         have hns59_0 := NB737_746.out
         have hns59_1 := NB738_746.out
         have hms59_0 := NB746_737.out
         have hms59_1 := NB746_738.out
         refine skip_ (w1 := ?_) (by rfl) rfl ?_ ?_
         rotate_left
         ·go_simp
          rfl
         refine hK.out _ _ ?_
         clear hK K
         refine pq_ 12 37 14 8191 HT_.out ?_
         refine last_ (i := 13) (N := none) #[true, true, true, true, true, true, true, true, true, true, true, true, true, true] rfl rfl (one_of HT_.out (by kernel_rfl)) (by decide) (fun K hK => ?_)
         have hs61 : w57.cell? ⟨gb746, 1, none⟩ = some (.slice Ao56 x747001_1.length co56) := bc1_ BK746.out
         have hfs61 := blk_frozen BK746.out 1
         have hns61_0 := NB737_746.out
         have hns61_1 := NB738_746.out
         have hms61_0 := NB746_737.out
         have hms61_1 := NB746_738.out
         refine skip_ (w1 := ?_) (by rfl) rfl ?_ ?_
         rotate_left
         ·go_simp
          rfl
         refine hK.out _ _ ?_
         clear hK K
         refine done_ (done_of HT_.out (by kernel_rfl)) ?_
         have hnb62 := NB746_737.out
         have hnc62 := NB737_746.out
         have hnb63 := NB746_738.out
         have hnc63 := NB738_746.out
         have hcz64_0 := bc0_ BK746.out
         have hcz64_1 := bc1_ BK746.out
         have hfz64_0 := blk_frozen BK746.out 0
         have hfz64_1 := blk_frozen BK746.out 1
         have hnb65 := NB738_737.out
         have hnc65 := NB737_738.out
         have hcz66_0 := bc0_ BK738.out
         have hcz66_1 := bc1_ BK738.out
         have hfz66_0 := blk_frozen BK738.out 0
         have hfz66_1 := blk_frozen BK738.out 1
         try go_wp2
         refine bodyPost_ret (results_ct rfl _ _ gb738 29 #[.slice none 0 0, .slice none 0 0] (0, 0) _ rfl kp_ Tryd.underlying29 rfl (by kernel_rfl)) rfl ?_
         exact ⟨_, _, eW_, Kd.V_nil _ _ _ _ _, Kd.V_nil _ _ _ _ _, sU_⟩
        ·rw [if_neg c52] at H
         have c52b0 : decide (64 < (t750.length : Int)) = false := decide_eq_false c52
         have c52b1 : decide (64 < t750.length) = false := decide_eq_false (by omega)
         clear c52
         have H' := ak H
         clear H
         try go_wp2
         refine nx6_ (V_drew HO_747000.out) (V_drew HO_747001.out) (blk_drew BK737.out) (blk_drew BK738.out) (blk_drew BK746.out) (below_drew1 HB.out) ?_
         clear HO_747000 HO_747001 BK737 BK738 BK746 HB
         intro HO_747000 HO_747001 BK737 BK738 BK746 HB
         obtain ⟨Ao68, co68, eo68⟩ := V_slice HO_747000.out
         (first | subst eo68 | (injection eo68 with f1_ f2_ f3_; have f4_ := f1_.symm; have f5_ := f3_.symm; clear f1_ f2_ f3_; subst f4_; subst f5_))
         refine start_ (n := 14) (S := fun w' => w'.cell? ⟨gb746, 0, none⟩ = some (.slice Ao68 x747000_1.length co68) ∧ w'.cell? ⟨gb746, 1, none⟩ = some (u747001) ∧ w'.cell? ⟨gb737, 0, none⟩ = some (.slice A0_0 l0_0.length c0_0) ∧ w'.cell? ⟨gb737, 1, none⟩ = some (.slice A0_1 l0_1.length c0_1)) (ds := [11, 13]) (bv 14 0) (by kernel_rfl) rfl rfl ⟨bc0_ BK746.out, bc1_ BK746.out, bc0_ BK737.out, bc1_ BK737.out⟩ (fun hHeld => ?_); refine with_tabW ratio_Power.tab8 ratio_Power.bits8 (fun HT_ HW_ => ?_)
         generalize wr.drew = w67 at HO_747000 HO_747001 BK737 BK738 BK746 HB hHeld ⊢
         refine pq_ 0 26 14 1 HT_.out ?_
         refine pq_ 2 28 14 5 HT_.out ?_
         refine pq_ 5 31 14 37 HT_.out ?_
         refine pq_ 7 33 14 165 HT_.out ?_
         refine tq_ 1 27 14 167 HT_.out HW_.out hHeld ?_
         refine tq_ 3 29 14 175 HT_.out HW_.out hHeld ?_
         refine tq_ 6 32 14 239 HT_.out HW_.out hHeld ?_
         refine tq_ 8 34 14 495 HT_.out HW_.out hHeld ?_
         refine oq_ 4 30 14 511 HT_.out fun K hK => ?_
         refine goes_ Tryd.func59 (by kernel_rfl) rfl #[.slice Ao68 x747000_1.length co68, .slice A0_0 l0_0.length c0_0] (by rfl) rfl rfl ga_ ?_
         with_reducible refine (ratio_mul.calls k1 _ _ x747000_1 _ _ l0_0 t747 _ ?side1 ?side2 ?side3 ?side4 A35.out).mono ?_
         (case side1 => exact cU_ ((V_reads' HO_747000.out).2.2))
         (case side2 => exact (V_reads' HO_747000.out).2.1)
         (case side3 => exact cU_ (C_below HR0_0.out HB.out))
         (case side4 => exact HC0_0.out)
         rintro e w69 ⟨v748, rfl, ho0, hb⟩
         refine ⟨_, rfl, ?_⟩
         refine nx7_ (V_below (vU_ HO_747000.out) hb) (V_below (vU_ HO_747001.out) hb) (V_lower (V_mono (ok' := fun k_ => (w.heap.size ≤ k_) ∧ k_ ≠ gb737 ∧ k_ ≠ gb738 ∧ k_ ≠ gb746) ho0 (fun k_ hk_ => ⟨(Nat.le_trans (below_size sU_) hk_), (freshB (kU_ BK737.out) k_ hk_), (freshB (kU_ BK738.out) k_ hk_), (freshB (kU_ BK746.out) k_ hk_)⟩)) (below_size sU_)) (blk_below (kU_ BK737.out) hb) (blk_below (kU_ BK738.out) hb) (blk_below (kU_ BK746.out) hb) (below_step sU_ hb) ?_
         clear HO_747000 HO_747001 BK737 BK738 BK746 HB
         intro HO_747000 HO_747001 HO749 BK737 BK738 BK746 HB
         (try clear hb)
         (try clear hb2)
         (try clear hk)
         (try clear hi)
         (try clear ho0)
         obtain ⟨Ao70, co70, eo70⟩ := V_slice HO_747001.out
         (first | subst eo70 | (injection eo70 with f1_ f2_ f3_; have f4_ := f1_.symm; have f5_ := f3_.symm; clear f1_ f2_ f3_; subst f4_; subst f5_))
         refine hK.out _ _ ⟨bc0_ BK746.out, bc1_ BK746.out, bc0_ BK737.out, bc1_ BK737.out⟩ (fun hHeld => ?_)
         clear hK K
         refine norm_ (a' := ?_) ?_ ?_
         rotate_left
         ·show Act.put _ (some 30) _ = _
          simp only [Act.put, s1_, s2_, s3_, i64_w, i32_w]
          rfl
         refine pq_ 10 36 14 1535 HT_.out ?_
         refine oq_ 9 35 14 2047 HT_.out fun K hK => ?_
         refine goes_ Tryd.func59 (by kernel_rfl) rfl #[.slice Ao70 x747001_1.length co70, .slice A0_1 l0_1.length c0_1] (by rfl) rfl rfl ga_ ?_
         with_reducible refine (ratio_mul.calls k1 _ _ x747001_1 _ _ l0_1 t750 _ ?side1 ?side2 ?side3 ?side4 A36.out).mono ?_
         (case side1 => exact cU_ ((V_reads' HO_747001.out).2.2))
         (case side2 => exact (V_reads' HO_747001.out).2.1)
         (case side3 => exact cU_ (C_below HR0_1.out HB.out))
         (case side4 => exact HC0_1.out)
         rintro e w71 ⟨v751, rfl, ho0, hb⟩
         refine ⟨_, rfl, ?_⟩
         refine nx8_ (V_below (vU_ HO_747000.out) hb) (V_below (vU_ HO_747001.out) hb) (V_below (vU_ HO749.out) hb) (V_lower (V_mono (ok' := fun k_ => (w.heap.size ≤ k_) ∧ k_ ≠ gb737 ∧ k_ ≠ gb738 ∧ k_ ≠ gb746) ho0 (fun k_ hk_ => ⟨(Nat.le_trans (below_size sU_) hk_), (freshB (kU_ BK737.out) k_ hk_), (freshB (kU_ BK738.out) k_ hk_), (freshB (kU_ BK746.out) k_ hk_)⟩)) (below_size sU_)) (blk_below (kU_ BK737.out) hb) (blk_below (kU_ BK738.out) hb) (blk_below (kU_ BK746.out) hb) (below_step sU_ hb) ?_
         clear HO_747000 HO_747001 HO749 BK737 BK738 BK746 HB
         intro HO_747000 HO_747001 HO749 HO752 BK737 BK738 BK746 HB
         (try clear hb)
         (try clear hb2)
         (try clear hk)
         (try clear hi)
         (try clear ho0)
         obtain ⟨Ao72, co72, eo72⟩ := V_slice HO749.out
         (first | subst eo72 | (injection eo72 with f1_ f2_ f3_; have f4_ := f1_.symm; have f5_ := f3_.symm; clear f1_ f2_ f3_; subst f4_; subst f5_))
         obtain ⟨Ao74, co74, eo74⟩ := V_slice HO752.out
         (first | subst eo74 | (injection eo74 with f1_ f2_ f3_; have f4_ := f1_.symm; have f5_ := f3_.symm; clear f1_ f2_ f3_; subst f4_; subst f5_))
         refine hK.out _ _ ⟨bc0_ BK746.out, bc1_ BK746.out, bc0_ BK737.out, bc1_ BK737.out⟩ (fun hHeld => ?_)
         clear hK K
         refine norm_ (a' := ?_) ?_ ?_
         rotate_left
         ·show Act.put _ (some 35) _ = _
          simp only [Act.put, s1_, s2_, s3_, i64_w, i32_w]
          rfl
         refine last_ (i := 11) (N := none) #[true, true, true, true, true, true, true, true, true, true, true, true, false, false] rfl rfl (one_of HT_.out (by kernel_rfl)) (by decide) (fun K hK => ?_)
         have hs73 : w71.cell? ⟨gb746, 0, none⟩ = some (.slice Ao68 x747000_1.length co68) := bc0_ BK746.out
         have hfs73 := blk_frozen BK746.out 0
         have hns73_0 := NB737_746.out
         have hns73_1 := NB738_746.out
         have hms73_0 := NB746_737.out
         have hms73_1 := NB746_738.out
         refine skip_ (w1 := ?_) (by rfl) rfl ?_ ?_
         rotate_left
         ·go_simp
          rfl
         refine hK.out _ _ ?_
         clear hK K
         refine pq_ 12 37 14 8191 HT_.out ?_
         refine last_ (i := 13) (N := none) #[true, true, true, true, true, true, true, true, true, true, true, true, true, true] rfl rfl (one_of HT_.out (by kernel_rfl)) (by decide) (fun K hK => ?_)
         have hs75 : w71.cell? ⟨gb746, 1, none⟩ = some (.slice Ao70 x747001_1.length co70) := bc1_ BK746.out
         have hfs75 := blk_frozen BK746.out 1
         have hns75_0 := NB737_746.out
         have hns75_1 := NB738_746.out
         have hms75_0 := NB746_737.out
         have hms75_1 := NB746_738.out
         refine skip_ (w1 := ?_) (by rfl) rfl ?_ ?_
         rotate_left
         ·go_simp
          rfl
         refine hK.out _ _ ?_
         clear hK K
         refine done_ (done_of HT_.out (by kernel_rfl)) ?_
         have hnb76 := NB746_737.out
         have hnc76 := NB737_746.out
         have hnb77 := NB746_738.out
         have hnc77 := NB738_746.out
         have hcz78_0 := bc0_ BK746.out
         have hcz78_1 := bc1_ BK746.out
         have hfz78_0 := blk_frozen BK746.out 0
         have hfz78_1 := blk_frozen BK746.out 1
         try go_wp2
         go_roundg k1
         case measure => have := HK1.out; omega
         case rel => exact ⟨(wrap64 (x24_1 + 1)), (t747), (t750), (.slice Ao72 t747.length co72), (.slice Ao74 t750.length co74), gb_, H', ⟨by have := HK1.out; omega⟩, ⟨by (with_reducible repeat (first | apply Kd.V_alloc | apply Kd.V_drewN | apply V_drew)); exact V_mono (V_far (p := ⟨gb746, 1, none⟩) (V_far (p := ⟨gb746, 0, none⟩) (V_mono HO749.out (fun k_ hk => (⟨hk, hk.2.2.2⟩ : _ ∧ k_ ≠ gb746))) (fun _ hk => hk.2) (.slice Ao72 t747.length co72)) (fun _ hk => hk.2) (.slice Ao74 t750.length co74)) (fun _ hk => ⟨hk.1.1, ⟨hk.1.2.1, ⟨hk.1.2.2.1, hk.1.2.2.2⟩⟩⟩)⟩, ⟨by (with_reducible repeat (first | apply Kd.V_alloc | apply Kd.V_drewN | apply V_drew)); exact V_mono (V_far (p := ⟨gb746, 1, none⟩) (V_far (p := ⟨gb746, 0, none⟩) (V_mono HO752.out (fun k_ hk => (⟨hk, hk.2.2.2⟩ : _ ∧ k_ ≠ gb746))) (fun _ hk => hk.2) (.slice Ao72 t747.length co72)) (fun _ hk => hk.2) (.slice Ao74 t750.length co74)) (fun _ hk => ⟨hk.1.1, ⟨hk.1.2.1, ⟨hk.1.2.2.1, hk.1.2.2.2⟩⟩⟩)⟩, ⟨by (with_reducible repeat (first | refine blk_drewN ?_ _ | refine blk_drew ?_ | refine blk_alloc ?_ _)); refine blk_far ?_ NB737_746.out _; (with_reducible repeat (first | refine blk_drewN ?_ _ | refine blk_drew ?_ | refine blk_alloc ?_ _)); refine blk_far ?_ NB737_746.out _; (with_reducible repeat (first | refine blk_drewN ?_ _ | refine blk_drew ?_ | refine blk_alloc ?_ _)); exact BK737.out⟩, ⟨by (with_reducible repeat (first | refine blk_drewN ?_ _ | refine blk_drew ?_ | refine blk_alloc ?_ _)); refine blk_far ?_ NB738_746.out _; (with_reducible repeat (first | refine blk_drewN ?_ _ | refine blk_drew ?_ | refine blk_alloc ?_ _)); refine blk_far ?_ NB738_746.out _; (with_reducible repeat (first | refine blk_drewN ?_ _ | refine blk_drew ?_ | refine blk_alloc ?_ _)); exact BK738.out⟩, ⟨by (with_reducible repeat (first | refine blk_drewN ?_ _ | refine blk_drew ?_ | refine blk_alloc ?_ _)); refine blk_put (cs := #[.slice Ao72 t747.length co72, .slice Ao70 x747001_1.length co70]) ?_ 1 _ rfl; (with_reducible repeat (first | refine blk_drewN ?_ _ | refine blk_drew ?_ | refine blk_alloc ?_ _)); refine blk_put (cs := #[.slice Ao68 x747000_1.length co68, .slice Ao70 x747001_1.length co70]) ?_ 0 _ rfl; (with_reducible repeat (first | refine blk_drewN ?_ _ | refine blk_drew ?_ | refine blk_alloc ?_ _)); exact BK746.out⟩, ⟨sU_⟩⟩
      ·rw [if_neg c34] at H
       have c34b0 := decide_eq_false c34
       clear c34
       simp only [Option.some.injEq, Prod.mk.injEq] at H
       obtain ⟨rfl, rfl, rfl⟩ := H
       have hnb79 := NB746_737.out
       have hnc79 := NB737_746.out
       have hnb80 := NB746_738.out
       have hnc80 := NB738_746.out
       have hcz81_0 := bc0_ BK746.out
       have hcz81_1 := bc1_ BK746.out
       have hfz81_0 := blk_frozen BK746.out 0
       have hfz81_1 := blk_frozen BK746.out 1
       obtain ⟨Ao82, co82, eo82⟩ := V_slice HO_747000.out
       subst eo82
       have hnb83 := NB738_737.out
       have hnc83 := NB737_738.out
       have hcz84_0 := bc0_ BK738.out
       have hcz84_1 := bc1_ BK738.out
       have hfz84_0 := blk_frozen BK738.out 0
       have hfz84_1 := blk_frozen BK738.out 1
       obtain ⟨Ao85, co85, eo85⟩ := V_slice HO_747001.out
       subst eo85
       go_wp2
       refine bodyPost_ret (results_ct rfl _ _ gb738 29 #[.slice Ao82 x747000_1.length co82, .slice Ao85 x747001_1.length co85] (0, 0) _ rfl kp_ Tryd.underlying29 rfl (by kernel_rfl)) rfl ?_
       exact ⟨_, _, eW_, by (with_reducible repeat (first | apply Kd.V_alloc | apply Kd.V_drewN | apply V_drew)); exact V_mono (V_far (p := ⟨gb738, 1, none⟩) (V_far (p := ⟨gb738, 0, none⟩) (V_mono HO_747000.out (fun k_ hk => (⟨hk, hk.2.2.1⟩ : _ ∧ k_ ≠ gb738))) (fun _ hk => hk.2) (.slice Ao82 x747000_1.length co82)) (fun _ hk => hk.2) (.slice Ao85 x747001_1.length co85)) (fun _ hk => hk.1.1), by (with_reducible repeat (first | apply Kd.V_alloc | apply Kd.V_drewN | apply V_drew)); exact V_mono (V_far (p := ⟨gb738, 1, none⟩) (V_far (p := ⟨gb738, 0, none⟩) (V_mono HO_747001.out (fun k_ hk => (⟨hk, hk.2.2.1⟩ : _ ∧ k_ ≠ gb738))) (fun _ hk => hk.2) (.slice Ao82 x747000_1.length co82)) (fun _ hk => hk.2) (.slice Ao85 x747001_1.length co85)) (fun _ hk => hk.1.1), sU_⟩
 ·replace c4 := Bool.eq_false_iff.mpr c4
  subst c4
  rw [if_neg (show ¬ (false = true) by decide)] at H
  simp only [Option.some.injEq, Prod.mk.injEq] at H
  obtain ⟨rfl, rfl, rfl⟩ := H
  go_enter Tryd.func44, Tryd.ntmps44
  go_wp2_with (first | ((with_reducible refine gate_dst (N := 2) rfl ?_); (try (refine gate_guard (by rfl) ?_; dsimp only)); refine bx_ 2 29 #[.slice A0_0 l0_0.length c0_0, .slice A0_1 l0_1.length c0_1] ?_; intro gb737 hg w86 hbox hb; refine nx4_ (below_step (bU_ HB.out) hb) (hbox) ((hs_ hg (below_size (bU_ HB.out)))) ((hs_ hg (below_size (bU_ HB.out)))) ?_; clear HB; intro HB BK737 GW737 GE737; clear hb hbox hg) | ((with_reducible refine gate_dst (N := 4) rfl ?_); (try (refine gate_guard (by rfl) ?_; dsimp only)); refine bx_ 4 29 #[.slice none 0 0, .slice none 0 0] ?_; intro gb738 hg w87 hbox hb; refine nx7_ (blk_below (kU_ BK737.out) hb) (below_step sU_ hb) (hbox) ((hs_ hg (below_size sU_) : w.heap.size ≤ gb738)) ((hs_ hg (below_size sU_) : w.heap.size ≤ gb738)) ((hl_ hg (kU_ BK737.out))) ((hm_ hg (kU_ BK737.out))) ?_; clear BK737 HB; intro BK737 HB BK738 GW738 GE738 NB737_738 NB738_737; clear hb hbox hg; have hnb88 := NB737_738.out; have hnc88 := NB738_737.out; have hcz89_0 := bc0_ BK737.out; have hcz89_1 := bc1_ BK737.out; have hfz89_0 := blk_frozen BK737.out 0; have hfz89_1 := blk_frozen BK737.out 1) | ((with_reducible refine gate_callee (f := 30) rfl ?_); refine gl_ (some 9) Tryd.func30 #[.agg #[.slice A0_0 l0_0.length c0_0, .slice A0_1 l0_1.length c0_1]] ?_; (with_reducible refine (ratio_Valid.calls k _ _ l0_0 _ _ l0_1 false _ ?side1 ?side2 ?side3 ?side4 A3.out).mono ?_); (case side1 => exact cU_ (C_below HR0_0.out HB.out)); (case side2 => exact HC0_0.out); (case side3 => exact cU_ (C_below HR0_1.out HB.out)); (case side4 => exact HC0_1.out); rintro e w90 ⟨rfl, hb⟩; refine ⟨_, rfl, ?_⟩; refine nx3_ (blk_below (kU_ BK737.out) hb) (blk_below (kU_ BK738.out) hb) (below_step sU_ hb) ?_; clear BK737 BK738 HB; intro BK737 BK738 HB; clear hb; have hcz91_0 := bc0_ BK738.out; have hcz91_1 := bc1_ BK738.out; have hfz91_0 := blk_frozen BK738.out 0; have hfz91_1 := blk_frozen BK738.out 1))
  refine bodyPost_ret (results_ct rfl _ _ gb738 29 #[.slice none 0 0, .slice none 0 0] (0, 0) _ rfl kp_ Tryd.underlying29 rfl (by kernel_rfl)) rfl ?_
  exact ⟨_, _, eW_, Kd.V_nil _ _ _ _ _, Kd.V_nil _ _ _ _ _, sU_⟩

end Go.Proofs.YtjjjoepnlhpjdaaDoor.Q

import Derived.Test.YtedapdagagkajaaDoorQ0
import Derived.Test.YtedapdagagkajaaDoorQ4
import Derived.Test.YtedapdagagkajaaDoorQ5
import Derived.Test.YtedapdagagkajaaDoorQ6
import Derived.Test.YtedapdagagkajaaDoorQ8
import Derived.Test.YtedapdagagkajaaDoorQ10
import Derived.Test.YtedapdagagkajaaDoorQ11
import Derived.Test.YtedapdagagkajaaDoorQ13
import Derived.Test.YtedapdagagkajaaDoorQ14
import Derived.Test.YtedapdagagkajaaDoorQ16
namespace Go.Proofs.YtedapdagagkajaaDoor.Q
open Go.RowKit Go.Proofs.YtedapdagagkajaaDoorW.PrintWords Go.Proofs.YtedapdagagkajaaDoorW.PrintLast Go.Proofs.YtedapdagagkajaaDoorW.PrintMore
open Kd (R_below R_mono R_far R_types R_lower R_new' R_elder' R_base R_lt R_slice R_reads' C_below fresh' R_drew C_of_reads)
attribute [local go_sem] max2_int min2_int max_two min_two max_three min_three max_four min_four   -- for this text's walks alone
set_option linter.unusedVariables false
set_option linter.unusedSimpArgs false

mutual
def attestorref05_Fill.j0 : Nat → List Int → List Bool → Int → Bool → Int → Int → Int → Option (List Int × Int)
 | 0, _, _, _, _, _, _, _ => none
 | k + 1, x1, x2, x3, x34, x650000, x650001, x650002 => if x34 = true then (some (([] : List Int), 1)) else (if x3 < 0 then (attestorref05_Fill.j1 k x1 x2 x3 true x650000 x650001 x650002) else ((attestorref05_Size.f x650000 x650001 x650002).bind fun t653 => (attestorref05_Fill.j1 k x1 x2 x3 (decide (x3 > t653)) x650000 x650001 x650002)))
def attestorref05_Fill.j1 : Nat → List Int → List Bool → Int → Bool → Int → Int → Int → Option (List Int × Int)
 | 0, _, _, _, _, _, _, _ => none
 | k + 1, x1, x2, x3, x42, x650000, x650001, x650002 => if x42 = true then (some (([] : List Int), 2)) else (if x3 > 1024 then (some (([] : List Int), 3)) else (attestorref05_Fill.l0 k x1 x2 x3 ([] : List Int) ([] : List Int) 0 x650000 x650001 x650002))
def attestorref05_Fill.l0 : Nat → List Int → List Bool → Int → List Int → List Int → Int → Int → Int → Int → Option (List Int × Int)
 | 0, _, _, _, _, _, _, _, _, _ => none
 | k + 1, x1, x2, x3, x10, x11, x12, x650000, x650001, x650002 => if x12 < (x1.length : Int) then (attestorref05_Fill.j3 k x1 x2 x3 x10 x11 x12 (decide ((x10.length : Int) < x3)) x650000 x650001 x650002) else (attestorref05_Fill.j3 k x1 x2 x3 x10 x11 x12 false x650000 x650001 x650002)
def attestorref05_Fill.j3 : Nat → List Int → List Bool → Int → List Int → List Int → Int → Bool → Int → Int → Int → Option (List Int × Int)
 | 0, _, _, _, _, _, _, _, _, _, _ => none
 | k + 1, x1, x2, x3, x10, x11, x12, x54, x650000, x650001, x650002 => if x54 = true then (if 0 ≤ x12 then (if x12 < (x2.length : Int) then (if rdOf false x2 x12 = true then ((attestorref05_Point.f k x650000 x650001 x650002 x12).bind fun t655 => (if x10.length < 17592186044416 then (if x12 < (x1.length : Int) then (if x11.length < 17592186044416 then (attestorref05_Fill.l0 k x1 x2 x3 (x10 ++ [t655]) (x11 ++ [rd x1 x12]) (wrap64 (x12 + 1)) x650000 x650001 x650002) else (none)) else (none)) else (none))) else (attestorref05_Fill.l0 k x1 x2 x3 x10 x11 (wrap64 (x12 + 1)) x650000 x650001 x650002)) else (none)) else (none)) else (if (x10.length : Int) < x3 then (some (([] : List Int), 5)) else ((attestorref03_Through.f k x650000 x10 x11).bind fun bt663 => (attestorref05_Fill.l1 k x1 x2 bt663.1 ([] : List Int) 0 x650000 x650001 x650002)))
def attestorref05_Fill.l1 : Nat → List Int → List Bool → List Int → List Int → Int → Int → Int → Int → Option (List Int × Int)
 | 0, _, _, _, _, _, _, _, _ => none
 | k + 1, x1, x2, x13, x15, x16, x650000, x650001, x650002 => if x16 < (x1.length : Int) then ((attestorref05_Point.f k x650000 x650001 x650002 x16).bind fun t667 => ((attestorref03_Eval.f k x650000 x13 t667).bind fun t668 => (if 0 ≤ x16 then (if x16 < (x2.length : Int) then (if rdOf false x2 x16 = true then ((attestorref01_Reduce.f x650000 (rd x1 x16)).bind fun t671 => (if t668 = t671 then (if x15.length < 17592186044416 then (attestorref05_Fill.l1 k x1 x2 x13 (x15 ++ [t668]) (wrap64 (x16 + 1)) x650000 x650001 x650002) else (none)) else (some (([] : List Int), 7)))) else (if x15.length < 17592186044416 then (attestorref05_Fill.l1 k x1 x2 x13 (x15 ++ [t668]) (wrap64 (x16 + 1)) x650000 x650001 x650002) else (none))) else (none)) else (none)))) else (some (x15, 0))
end
def attestorref05_Fill.f (k : Nat) (a0_0 : Int) (a0_1 : Int) (a0_2 : Int) (l1 : List Int) (l2 : List Bool) (a3 : Int) : Option (List Int × Int) := (attestorref05_Valid.f a0_0 a0_1 a0_2).bind fun t650 => (if t650 = true then ((attestorref05_Size.f a0_0 a0_1 a0_2).bind fun t651 => (if (l1.length : Int) = t651 then ((attestorref05_Size.f a0_0 a0_1 a0_2).bind fun t652 => (attestorref05_Fill.j0 k l1 l2 a3 ((l2.length : Int) != t652) a0_0 a0_1 a0_2)) else (attestorref05_Fill.j0 k l1 l2 a3 true a0_0 a0_1 a0_2))) else (attestorref05_Fill.j0 k l1 l2 a3 true a0_0 a0_1 a0_2))
def attestorref05_Fill.T21 : Bool × List (List Nat × List Nat) := (true, [([], []), ([0], [0]), ([], []), ([], []), ([], []), ([3, 4], [3, 4]), ([1, 2, 5, 5], [1, 2, 5]), ([6, 6, 0, 1, 2, 3, 4, 5, 6], [6])])
def attestorref05_Fill.B21 : List Nat := [0, 1, 0, 0, 0, 24, 63, 127]
theorem attestorref05_Fill.tab21 : rtab .any (opsOf Tryd.f30 21) = attestorref05_Fill.T21 := by kernel_rfl
theorem attestorref05_Fill.bits21 : waitsOk attestorref05_Fill.T21.2 attestorref05_Fill.B21 = true := by kernel_rfl
def attestorref05_Fill.T22 : Bool × List (List Nat × List Nat) := (true, [([], []), ([], []), ([0, 1], [0, 1]), ([2], [2]), ([3], [3]), ([4], [4]), ([4], [4]), ([6, 4], [4, 6]), ([4], [4]), ([4], [4]), ([8, 9, 4], [4, 8, 9]), ([10, 4], [4, 10]), ([7, 11, 4, 4], [4, 7, 11]), ([5, 12, 4], [4, 5, 12]), ([4, 13], [4, 13])])
def attestorref05_Fill.B22 : List Nat := [0, 0, 3, 7, 15, 31, 31, 95, 31, 31, 799, 1823, 4063, 8191, 16383]
theorem attestorref05_Fill.tab22 : rtab .any (opsOf Tryd.f30 22) = attestorref05_Fill.T22 := by kernel_rfl
theorem attestorref05_Fill.bits22 : waitsOk attestorref05_Fill.T22.2 attestorref05_Fill.B22 = true := by kernel_rfl
set_option maxHeartbeats 8000000 in
set_option maxRecDepth 100000 in
theorem attestorref05_Fill.calls (k : Nat) (a0_0 : Int) (a0_1 : Int) (a0_2 : Int) (A1 : Option Addr) (c1 : Nat) (l1 : List Int) (A2 : Option Addr) (c2 : Nat) (l2 : List Bool) (a3 : Int) (r1 : List Int) (r2 : Int) (w : World) (hr1 : Kd.C (Kd.int .u64) w A1 l1.length l1) (hc1 : l1.length ≤ c1) (hr2 : Kd.C Kd.bool w A2 l2.length l2) (hc2 : l2.length ≤ c2) (h : attestorref05_Fill.f k a0_0 a0_1 a0_2 l1 l2 a3 = some (r1, r2)) :
  Calls Tryd.prog 30 #[.agg #[.int .i64 a0_0, .int .i64 a0_1, .int .u64 a0_2], .slice A1 l1.length c1, .slice A2 l2.length c2, .int .i64 a3] w fun e w' => ∃ v0_ : Value, e = .returned (.tuple #[v0_, .int .i64 r2]) ∧ Kd.R (Kd.int .u64) 22 w' w.heap.size (fun _ => True) v0_ r1 ∧ Below w.heap.size w w' := by
 have hu24 := Tryd.underlying24
 have HR1 := ak hr1
 have HC1 := ak hc1
 clear hr1 hc1
 have HR2 := ak hr2
 have HC2 := ak hc2
 clear hr2 hc2
 have HB := ak (Below.refl w.heap.size w)
 have H := h
 clear h
 unfold attestorref05_Fill.f at H
 have HC5 := ak H
 clear H
 go_enter Tryd.func30, Tryd.ntmps30
 go_upto_region 1 with (first | ((with_reducible refine gate_dst (N := 4) rfl ?_); (try (refine gate_guard (by rfl) ?_; dsimp only)); refine bx_ 4 24 #[.int .i64 a0_0, .int .i64 a0_1, .int .u64 a0_2] ?_; intro gb649 hg w6 hbox hb; refine nx4_ (below_step (bU_ HB.out) hb) (hbox) ((hs_ hg (below_size (bU_ HB.out)))) ((hs_ hg (below_size (bU_ HB.out)))) ?_; clear HB; intro HB BK649 GW649 GE649; clear hb hbox hg))
 (try simp only [Act.put, s1_, s2_, s3_])
 go_cut [34] (fun v34 wc => ∃ (kq : Nat) (x34_4 : Bool), v34 = .bool x34_4 ∧ Aside0 (attestorref05_Fill.j0 kq l1 l2 a3 x34_4 a0_0 a0_1 a0_2 = some (r1, r2)) ∧ Aside0 (kq ≤ k) ∧ Aside0 (wc.heap[gb649]? = some (.cells #[.int .i64 a0_0, .int .i64 a0_1, .int .u64 a0_2] 24 (0, 0))) ∧ Aside0 (Below w.heap.size w wc))
 case first =>
  have H := HC5.out
  clear HC5
  revert H
  refine bd_ fun t650 A7 H => ?_
  by_cases c8 : t650 = true
  ·subst c8
   rw [if_pos rfl] at H
   revert H
   refine bd_ fun t651 A9 H => ?_
   by_cases c10 : (l1.length : Int) = t651
   ·rw [if_pos c10] at H
    have c10b0 := beq_iff_eq.mpr c10
    have c10b1 := bne_eq_false_iff_eq.mpr c10
    clear c10
    (first | rw [c10b0] | (simp only [i64_w, i32_w]; rw [c10b0]) | rw [c10b1] | skip)
    revert H
    refine bd_ fun t652 A11 H => ?_
    have H' := ak H
    clear H
    have hcz12_0 := bc0_ BK649.out
    have hcz12_1 := bc1_ BK649.out
    have hcz12_2 := bc2_ BK649.out
    have hfz12_0 := blk_frozen BK649.out 0
    have hfz12_1 := blk_frozen BK649.out 1
    have hfz12_2 := blk_frozen BK649.out 2
    go_wp2_with (first | ((with_reducible refine gate_callee (f := 12) rfl ?_); refine gl_ (some 19) Tryd.func12 #[.agg #[.int .i64 a0_0, .int .i64 a0_1, .int .u64 a0_2]] ?_; (with_reducible refine (attestorref05_Valid.calls a0_0 a0_1 a0_2 true _ A7.out).mono ?_); rintro e w13 ⟨rfl, hb⟩; refine ⟨_, rfl, ?_⟩; refine nx2_ (blk_below (kU_ BK649.out) hb) (below_step sU_ hb) ?_; clear BK649 HB; intro BK649 HB; clear hb; have hcz14_0 := bc0_ BK649.out; have hcz14_1 := bc1_ BK649.out; have hcz14_2 := bc2_ BK649.out; have hfz14_0 := blk_frozen BK649.out 0; have hfz14_1 := blk_frozen BK649.out 1; have hfz14_2 := blk_frozen BK649.out 2) | (go_at_call 14; (with_reducible refine (attestorref05_Size.calls a0_0 a0_1 a0_2 t651 _ A9.out).mono ?_); rintro e w15 ⟨rfl, hb⟩; refine nx2_ (blk_below (kU_ BK649.out) hb) (below_step sU_ hb) ?_; clear BK649 HB; intro BK649 HB; clear hb; have hcz16_0 := bc0_ BK649.out; have hcz16_1 := bc1_ BK649.out; have hcz16_2 := bc2_ BK649.out; have hfz16_0 := blk_frozen BK649.out 0; have hfz16_1 := blk_frozen BK649.out 1; have hfz16_2 := blk_frozen BK649.out 2) | (go_at_call 14; (with_reducible refine (attestorref05_Size.calls a0_0 a0_1 a0_2 t652 _ A11.out).mono ?_); rintro e w17 ⟨rfl, hb⟩; refine nx2_ (blk_below (kU_ BK649.out) hb) (below_step sU_ hb) ?_; clear BK649 HB; intro BK649 HB; clear hb))
    go_meet
    case rel => exact ⟨_, (((l2.length : Int) != t652)), (by rw [show t651 = t652 from Option.some.inj (A9.out.symm.trans A11.out)]), H', ⟨by first | omega | exact Nat.le_refl _⟩, ⟨by (with_reducible repeat (first | refine blk_drewN ?_ _ | refine blk_drew ?_ | refine blk_alloc ?_ _)); exact BK649.out⟩, ⟨sU_⟩⟩   -- same call
   rw [if_neg c10] at H
   have c10b0 := beq_eq_false_iff_ne.mpr c10
   have c10b1 := bne_iff_ne.mpr c10
   (first | rw [c10b0] | (simp only [i64_w, i32_w]; rw [c10b0]) | rw [c10b1] | skip)
   have H' := ak H
   clear H
   have hcz18_0 := bc0_ BK649.out
   have hcz18_1 := bc1_ BK649.out
   have hcz18_2 := bc2_ BK649.out
   have hfz18_0 := blk_frozen BK649.out 0
   have hfz18_1 := blk_frozen BK649.out 1
   have hfz18_2 := blk_frozen BK649.out 2
   go_wp2_with (first | ((with_reducible refine gate_callee (f := 12) rfl ?_); refine gl_ (some 19) Tryd.func12 #[.agg #[.int .i64 a0_0, .int .i64 a0_1, .int .u64 a0_2]] ?_; (with_reducible refine (attestorref05_Valid.calls a0_0 a0_1 a0_2 true _ A7.out).mono ?_); rintro e w19 ⟨rfl, hb⟩; refine ⟨_, rfl, ?_⟩; refine nx2_ (blk_below (kU_ BK649.out) hb) (below_step sU_ hb) ?_; clear BK649 HB; intro BK649 HB; clear hb; have hcz20_0 := bc0_ BK649.out; have hcz20_1 := bc1_ BK649.out; have hcz20_2 := bc2_ BK649.out; have hfz20_0 := blk_frozen BK649.out 0; have hfz20_1 := blk_frozen BK649.out 1; have hfz20_2 := blk_frozen BK649.out 2) | (go_at_call 14; (with_reducible refine (attestorref05_Size.calls a0_0 a0_1 a0_2 t651 _ A9.out).mono ?_); rintro e w21 ⟨rfl, hb⟩; refine nx2_ (blk_below (kU_ BK649.out) hb) (below_step sU_ hb) ?_; clear BK649 HB; intro BK649 HB; clear hb))
   go_meet
   case rel => exact ⟨_, (true), gb_, H', ⟨by first | omega | exact Nat.le_refl _⟩, ⟨by (with_reducible repeat (first | refine blk_drewN ?_ _ | refine blk_drew ?_ | refine blk_alloc ?_ _)); exact BK649.out⟩, ⟨sU_⟩⟩
  replace c8 := Bool.eq_false_iff.mpr c8
  subst c8
  rw [if_neg (show ¬ (false = true) by decide)] at H
  have H' := ak H
  clear H
  have hcz22_0 := bc0_ BK649.out
  have hcz22_1 := bc1_ BK649.out
  have hcz22_2 := bc2_ BK649.out
  have hfz22_0 := blk_frozen BK649.out 0
  have hfz22_1 := blk_frozen BK649.out 1
  have hfz22_2 := blk_frozen BK649.out 2
  go_wp2_with (first | ((with_reducible refine gate_callee (f := 12) rfl ?_); refine gl_ (some 19) Tryd.func12 #[.agg #[.int .i64 a0_0, .int .i64 a0_1, .int .u64 a0_2]] ?_; (with_reducible refine (attestorref05_Valid.calls a0_0 a0_1 a0_2 false _ A7.out).mono ?_); rintro e w23 ⟨rfl, hb⟩; refine ⟨_, rfl, ?_⟩; refine nx2_ (blk_below (kU_ BK649.out) hb) (below_step sU_ hb) ?_; clear BK649 HB; intro BK649 HB; clear hb))
  go_meet
  case rel => exact ⟨_, (true), gb_, H', ⟨by first | omega | exact Nat.le_refl _⟩, ⟨by (with_reducible repeat (first | refine blk_drewN ?_ _ | refine blk_drew ?_ | refine blk_alloc ?_ _)); exact BK649.out⟩, ⟨sU_⟩⟩
 case rest =>
  clear HC5
  (try clear c1); (try clear c2); (try clear p2); (try clear c3); (try clear c8); (try clear c10); (try clear c10b0); (try clear c10b1); (try clear c12); (try clear hcz12_0); (try clear hcz12_1); (try clear hcz12_2); (try clear hcz14_0); (try clear hcz14_1); (try clear hcz14_2); (try clear hcz16_0); (try clear hcz16_1); (try clear hcz16_2); (try clear hcz18_0); (try clear hcz18_1); (try clear hcz18_2); (try clear hcz20_0); (try clear hcz20_1); (try clear hcz20_2); (try clear hcz22_0); (try clear hcz22_1); (try clear hcz22_2); (try clear hfz12_0); (try clear hfz12_1); (try clear hfz12_2); (try clear hfz14_0); (try clear hfz14_1); (try clear hfz14_2); (try clear hfz16_0); (try clear hfz16_1); (try clear hfz16_2); (try clear hfz18_0); (try clear hfz18_1); (try clear hfz18_2); (try clear hfz20_0); (try clear hfz20_1); (try clear hfz20_2); (try clear hfz22_0); (try clear hfz22_1); (try clear hfz22_2)
  obtain ⟨kq, x34_4, rfl, HA, HJ4, BK649, HB⟩ := hcut
  cases kq with
  | zero => exact absurd HA.out (by simp [attestorref05_Fill.j0])
  | succ kj4 =>
   have H := HA.out
   clear HA
   simp only [attestorref05_Fill.j0] at H
   by_cases c24 : x34_4 = true
   ·subst c24
    rw [if_pos rfl] at H
    simp only [Option.some.injEq, Prod.mk.injEq] at H
    obtain ⟨rfl, rfl⟩ := H
    go_wp2
    go_ret2
    exact ⟨_, eW_, by first | exact Kd.R_nil _ _ _ _ _ | exact Kd.N_nil _ _ _ _ _ | exact Kd.V_nil _ _ _ _ _ | exact Kd.Q_nil _ _ _ _ _ | exact Kd.S_nil _ _ _ _ _, sU_⟩
   replace c24 := Bool.eq_false_iff.mpr c24
   subst c24
   rw [if_neg (show ¬ (false = true) by decide)] at H
   have HC25 := ak H
   clear H
   go_upto_region 3 with (fail)
   go_cut [42] (fun v42 wc => ∃ (kq : Nat) (x42_24 : Bool), v42 = .bool x42_24 ∧ Aside0 (attestorref05_Fill.j1 kq l1 l2 a3 x42_24 a0_0 a0_1 a0_2 = some (r1, r2)) ∧ Aside0 (kq ≤ kj4) ∧ Aside0 (wc.heap[gb649]? = some (.cells #[.int .i64 a0_0, .int .i64 a0_1, .int .u64 a0_2] 24 (0, 0))) ∧ Aside0 (Below w.heap.size w wc))
   case first =>
    have H := HC25.out
    clear HC25
    by_cases c26 : a3 < 0
    ·rw [if_pos c26] at H
     have c26b0 := decide_eq_true c26
     clear c26
     (first | rw [c26b0] | (simp only [i64_w, i32_w]; rw [c26b0]) | rw [c26b1] | skip)
     have H' := ak H
     clear H
     go_wp2
     go_meet
     case rel => exact ⟨_, (true), gb_, H', ⟨by have := HJ4.out; first | omega | exact Nat.le_refl _⟩, ⟨by (with_reducible repeat (first | refine blk_drewN ?_ _ | refine blk_drew ?_ | refine blk_alloc ?_ _)); exact BK649.out⟩, ⟨sU_⟩⟩
    rw [if_neg c26] at H
    have c26b0 := decide_eq_false c26
    clear c26
    (first | rw [c26b0] | (simp only [i64_w, i32_w]; rw [c26b0]) | rw [c26b1] | skip)
    revert H
    refine bd_ fun t653 A27 H => ?_
    have H' := ak H
    clear H
    have hcz28_0 := bc0_ BK649.out
    have hcz28_1 := bc1_ BK649.out
    have hcz28_2 := bc2_ BK649.out
    have hfz28_0 := blk_frozen BK649.out 0
    have hfz28_1 := blk_frozen BK649.out 1
    have hfz28_2 := blk_frozen BK649.out 2
    go_wp2_with (first | (go_at_call 14; (with_reducible refine (attestorref05_Size.calls a0_0 a0_1 a0_2 t653 _ A27.out).mono ?_); rintro e w29 ⟨rfl, hb⟩; refine nx2_ (blk_below (kU_ BK649.out) hb) (below_step sU_ hb) ?_; clear BK649 HB; intro BK649 HB; clear hb))
    go_meet
    case rel => exact ⟨_, (decide (a3 > t653)), gb_, H', ⟨by have := HJ4.out; first | omega | exact Nat.le_refl _⟩, ⟨by (with_reducible repeat (first | refine blk_drewN ?_ _ | refine blk_drew ?_ | refine blk_alloc ?_ _)); exact BK649.out⟩, ⟨sU_⟩⟩
   case rest =>
    clear HC25
    (try clear c1); (try clear c2); (try clear p2); (try clear c3); (try clear c8); (try clear c10); (try clear c10b0); (try clear c10b1); (try clear c12); (try clear c24); (try clear c26); (try clear c26b0); (try clear c26b1); (try clear hcz12_0); (try clear hcz12_1); (try clear hcz12_2); (try clear hcz14_0); (try clear hcz14_1); (try clear hcz14_2); (try clear hcz16_0); (try clear hcz16_1); (try clear hcz16_2); (try clear hcz18_0); (try clear hcz18_1); (try clear hcz18_2); (try clear hcz20_0); (try clear hcz20_1); (try clear hcz20_2); (try clear hcz22_0); (try clear hcz22_1); (try clear hcz22_2); (try clear hcz28_0); (try clear hcz28_1); (try clear hcz28_2); (try clear hfz12_0); (try clear hfz12_1); (try clear hfz12_2); (try clear hfz14_0); (try clear hfz14_1); (try clear hfz14_2); (try clear hfz16_0); (try clear hfz16_1); (try clear hfz16_2); (try clear hfz18_0); (try clear hfz18_1); (try clear hfz18_2); (try clear hfz20_0); (try clear hfz20_1); (try clear hfz20_2); (try clear hfz22_0); (try clear hfz22_1); (try clear hfz22_2); (try clear hfz28_0); (try clear hfz28_1); (try clear hfz28_2)
    obtain ⟨kq, x42_24, rfl, HA, HJ24, BK649, HB⟩ := hcut
    cases kq with
    | zero => exact absurd HA.out (by simp [attestorref05_Fill.j1])
    | succ kj24 =>
     have H := HA.out
     clear HA
     simp only [attestorref05_Fill.j1] at H
     by_cases c30 : x42_24 = true
     ·subst c30
      rw [if_pos rfl] at H
      simp only [Option.some.injEq, Prod.mk.injEq] at H
      obtain ⟨rfl, rfl⟩ := H
      go_wp2
      go_ret2
      exact ⟨_, eW_, by first | exact Kd.R_nil _ _ _ _ _ | exact Kd.N_nil _ _ _ _ _ | exact Kd.V_nil _ _ _ _ _ | exact Kd.Q_nil _ _ _ _ _ | exact Kd.S_nil _ _ _ _ _, sU_⟩
     replace c30 := Bool.eq_false_iff.mpr c30
     subst c30
     rw [if_neg (show ¬ (false = true) by decide)] at H
     by_cases c31 : a3 > 1024
     ·rw [if_pos c31] at H
      have c31b0 : decide (1024 < a3) = true := decide_eq_true c31
      clear c31
      simp only [Option.some.injEq, Prod.mk.injEq] at H
      obtain ⟨rfl, rfl⟩ := H
      go_wp2
      go_ret2
      exact ⟨_, eW_, by first | exact Kd.R_nil _ _ _ _ _ | exact Kd.N_nil _ _ _ _ _ | exact Kd.V_nil _ _ _ _ _ | exact Kd.Q_nil _ _ _ _ _ | exact Kd.S_nil _ _ _ _ _, sU_⟩
     rw [if_neg c31] at H
     have c31b0 : decide (1024 < a3) = false := decide_eq_false c31
     clear c31
     have H' := ak H
     clear H
     go_wp2
     go_loopg [10, 11, 12] kj24 (fun kq v10 v11 v12 w' => ∃ (x10_3 : List Int) (x11_3 : List Int) (x12_3 : Int), v12 = .int .i64 x12_3 ∧ Aside0 (attestorref05_Fill.l0 kq l1 l2 a3 x10_3 x11_3 x12_3 a0_0 a0_1 a0_2 = some (r1, r2)) ∧ Aside0 (kq ≤ kj24) ∧ Aside0 (Kd.R (Kd.int .u64) 22 w' w.heap.size (fun k_ => some k_ ≠ (v11 : Value).ownBlock) v10 x10_3) ∧ Aside0 (Kd.R (Kd.int .u64) 22 w' w.heap.size (fun k_ => some k_ ≠ (v10 : Value).ownBlock) v11 x11_3) ∧ Aside0 (w'.heap[gb649]? = some (.cells #[.int .i64 a0_0, .int .i64 a0_1, .int .u64 a0_2] 24 (0, 0))) ∧ Aside0 (Below w.heap.size w w'))
     case atStart => exact ⟨(([] : List Int)), (([] : List Int)), (0), gb_, H', ⟨Nat.le_refl _⟩, ⟨by first | exact Kd.R_nil _ _ _ _ _ | exact Kd.N_nil _ _ _ _ _ | exact Kd.V_nil _ _ _ _ _ | exact Kd.Q_nil _ _ _ _ _ | exact Kd.S_nil _ _ _ _ _⟩, ⟨by first | exact Kd.R_nil _ _ _ _ _ | exact Kd.N_nil _ _ _ _ _ | exact Kd.V_nil _ _ _ _ _ | exact Kd.Q_nil _ _ _ _ _ | exact Kd.S_nil _ _ _ _ _⟩, ⟨by (with_reducible repeat (first | refine blk_drewN ?_ _ | refine blk_drew ?_ | refine blk_alloc ?_ _)); exact BK649.out⟩, ⟨sU_⟩⟩
     case round =>
      clear H'
      (try clear c1); (try clear c2); (try clear p2); (try clear c3); (try clear c8); (try clear c10); (try clear c10b0); (try clear c10b1); (try clear c12); (try clear c24); (try clear c26); (try clear c26b0); (try clear c26b1); (try clear c30); (try clear c31); (try clear c31b0); (try clear hcz12_0); (try clear hcz12_1); (try clear hcz12_2); (try clear hcz14_0); (try clear hcz14_1); (try clear hcz14_2); (try clear hcz16_0); (try clear hcz16_1); (try clear hcz16_2); (try clear hcz18_0); (try clear hcz18_1); (try clear hcz18_2); (try clear hcz20_0); (try clear hcz20_1); (try clear hcz20_2); (try clear hcz22_0); (try clear hcz22_1); (try clear hcz22_2); (try clear hcz28_0); (try clear hcz28_1); (try clear hcz28_2); (try clear hfz12_0); (try clear hfz12_1); (try clear hfz12_2); (try clear hfz14_0); (try clear hfz14_1); (try clear hfz14_2); (try clear hfz16_0); (try clear hfz16_1); (try clear hfz16_2); (try clear hfz18_0); (try clear hfz18_1); (try clear hfz18_2); (try clear hfz20_0); (try clear hfz20_1); (try clear hfz20_2); (try clear hfz22_0); (try clear hfz22_1); (try clear hfz22_2); (try clear hfz28_0); (try clear hfz28_1); (try clear hfz28_2)
      obtain ⟨x10_3, x11_3, x12_3, rfl, HA, HK3, HO_10, HO_11, BK649, HB⟩ := hrel
      cases gk with
      | zero => exact absurd HA.out (by simp [attestorref05_Fill.l0])
      | succ k3 =>
       have H := HA.out
       clear HA
       simp only [attestorref05_Fill.l0] at H
       have HC32 := ak H
       clear H
       go_upto_region 9 with (fail)
       go_cut [54] (fun v54 wc => ∃ (kq : Nat) (x54_31 : Bool), v54 = .bool x54_31 ∧ Aside0 (attestorref05_Fill.j3 kq l1 l2 a3 x10_3 x11_3 x12_3 x54_31 a0_0 a0_1 a0_2 = some (r1, r2)) ∧ Aside0 (kq ≤ k3) ∧ Aside0 (Kd.R (Kd.int .u64) 22 wc w.heap.size (fun k_ => some k_ ≠ (u11 : Value).ownBlock) u10 x10_3) ∧ Aside0 (Kd.R (Kd.int .u64) 22 wc w.heap.size (fun k_ => some k_ ≠ (u10 : Value).ownBlock) u11 x11_3) ∧ Aside0 (wc.heap[gb649]? = some (.cells #[.int .i64 a0_0, .int .i64 a0_1, .int .u64 a0_2] 24 (0, 0))) ∧ Aside0 (Below w.heap.size w wc))
       case first =>
        have H := HC32.out
        clear HC32
        by_cases c33 : x12_3 < (l1.length : Int)
        ·rw [if_pos c33] at H
         have c33b0 := decide_eq_true c33
         clear c33
         (first | rw [c33b0] | (simp only [i64_w, i32_w]; rw [c33b0]) | rw [c33b1] | skip)
         have H' := ak H
         clear H
         obtain ⟨Ao34, co34, eo34⟩ := R_slice HO_10.out
         subst eo34
         go_wp2
         go_meet
         case rel => exact ⟨_, (decide ((x10_3.length : Int) < a3)), gb_, H', ⟨by have := HJ4.out; have := HJ24.out; have := HK3.out; first | omega | exact Nat.le_refl _⟩, ⟨rU_ HO_10.out⟩, ⟨rU_ HO_11.out⟩, ⟨by (with_reducible repeat (first | refine blk_drewN ?_ _ | refine blk_drew ?_ | refine blk_alloc ?_ _)); exact BK649.out⟩, ⟨sU_⟩⟩
        rw [if_neg c33] at H
        have c33b0 := decide_eq_false c33
        clear c33
        (first | rw [c33b0] | (simp only [i64_w, i32_w]; rw [c33b0]) | rw [c33b1] | skip)
        have H' := ak H
        clear H
        go_wp2
        go_meet
        case rel => exact ⟨_, (false), gb_, H', ⟨by have := HJ4.out; have := HJ24.out; have := HK3.out; first | omega | exact Nat.le_refl _⟩, ⟨rU_ HO_10.out⟩, ⟨rU_ HO_11.out⟩, ⟨by (with_reducible repeat (first | refine blk_drewN ?_ _ | refine blk_drew ?_ | refine blk_alloc ?_ _)); exact BK649.out⟩, ⟨sU_⟩⟩
       case rest =>
        clear HC32
        (try clear c1); (try clear c2); (try clear p2); (try clear c3); (try clear c8); (try clear c10); (try clear c10b0); (try clear c10b1); (try clear c12); (try clear c24); (try clear c26); (try clear c26b0); (try clear c26b1); (try clear c30); (try clear c31); (try clear c31b0); (try clear c33); (try clear c33b0); (try clear c33b1); (try clear hcz12_0); (try clear hcz12_1); (try clear hcz12_2); (try clear hcz14_0); (try clear hcz14_1); (try clear hcz14_2); (try clear hcz16_0); (try clear hcz16_1); (try clear hcz16_2); (try clear hcz18_0); (try clear hcz18_1); (try clear hcz18_2); (try clear hcz20_0); (try clear hcz20_1); (try clear hcz20_2); (try clear hcz22_0); (try clear hcz22_1); (try clear hcz22_2); (try clear hcz28_0); (try clear hcz28_1); (try clear hcz28_2); (try clear hfz12_0); (try clear hfz12_1); (try clear hfz12_2); (try clear hfz14_0); (try clear hfz14_1); (try clear hfz14_2); (try clear hfz16_0); (try clear hfz16_1); (try clear hfz16_2); (try clear hfz18_0); (try clear hfz18_1); (try clear hfz18_2); (try clear hfz20_0); (try clear hfz20_1); (try clear hfz20_2); (try clear hfz22_0); (try clear hfz22_1); (try clear hfz22_2); (try clear hfz28_0); (try clear hfz28_1); (try clear hfz28_2)
        obtain ⟨kq, x54_31, rfl, HA, HJ31, HO_10, HO_11, BK649, HB⟩ := hcut
        cases kq with
        | zero => exact absurd HA.out (by simp [attestorref05_Fill.j3])
        | succ kj31 =>
         have H := HA.out
         clear HA
         simp only [attestorref05_Fill.j3] at H
         by_cases c35 : x54_31 = true
         ·subst c35
          rw [if_pos rfl] at H
          obtain ⟨c36, H⟩ : (0 ≤ x12_3) ∧ _ := it_ H
          have c36b0 := decide_eq_true c36
          clear c36
          obtain ⟨c37, H⟩ : (x12_3 < (l2.length : Int)) ∧ _ := it_ H
          have c37b0 := decide_eq_true c37
          clear c37
          obtain ⟨bq38, hbq38⟩ : ∃ b_ : Bool, b_ = (rdOf false l2 x12_3) := ⟨_, rfl⟩
          replace H : (if bq38 = true then ((attestorref05_Point.f kj31 a0_0 a0_1 a0_2 x12_3).bind fun t655 => (if x10_3.length < 17592186044416 then (if x12_3 < (l1.length : Int) then (if x11_3.length < 17592186044416 then (attestorref05_Fill.l0 kj31 l1 l2 a3 (x10_3 ++ [t655]) (x11_3 ++ [rd l1 x12_3]) (wrap64 (x12_3 + 1)) a0_0 a0_1 a0_2) else (none)) else (none)) else (none))) else (attestorref05_Fill.l0 kj31 l1 l2 a3 x10_3 x11_3 (wrap64 (x12_3 + 1)) a0_0 a0_1 a0_2)) = some (r1, r2) := by rw [← hbq38] at H; exact H
          have Nbq38 := ak hbq38
          clear hbq38
          by_cases c39 : bq38 = true
          ·subst c39
           rw [if_pos rfl] at H
           revert H
           refine bd_ fun t655 A40 H => ?_
           obtain ⟨c41, H⟩ : (x10_3.length < 17592186044416) ∧ _ := it_ H
           have LMc41 := ak c41
           clear c41
           obtain ⟨y656, hy656⟩ : ∃ y_ : List Int, y_ = (x10_3 ++ [t655]) := ⟨_, rfl⟩
           first | rw [Option.bind_some, ← hy656] at H | rw [← hy656] at H
           have Ny656 := ak hy656
           clear hy656
           obtain ⟨c42, H⟩ : (x12_3 < (l1.length : Int)) ∧ _ := it_ H
           have c42b0 := decide_eq_true c42
           clear c42
           obtain ⟨c43, H⟩ : (x11_3.length < 17592186044416) ∧ _ := it_ H
           have LMc43 := ak c43
           clear c43
           obtain ⟨y660, hy660⟩ : ∃ y_ : List Int, y_ = (x11_3 ++ [rd l1 x12_3]) := ⟨_, rfl⟩
           first | rw [Option.bind_some, ← hy660] at H | rw [← hy660] at H
           have Ny660 := ak hy660
           clear hy660
           have H' := ak H
           clear H
           have p654 : 0 ≤ (x12_3 : Int) := od_
           have q654 : x12_3 < (l2.length : Int) := od_
           obtain ⟨ad654, e654, hx654_0⟩ := Kd.at_bool HR2.out x12_3 p654 q654
           (try rw [← Nbq38.out] at hx654_0)
           cases e654
           replace hx654_0 := (HB.out.cell (World.block_lt_of_cell? w _ hx654_0)).trans hx654_0
           replace p654 := eq_true p654
           replace q654 := eq_true q654
           have hcz44_0 := bc0_ BK649.out
           have hcz44_1 := bc1_ BK649.out
           have hcz44_2 := bc2_ BK649.out
           have hfz44_0 := blk_frozen BK649.out 0
           have hfz44_1 := blk_frozen BK649.out 1
           have hfz44_2 := blk_frozen BK649.out 2
           go_wp2_with (first | ((with_reducible refine gate_callee (f := 16) rfl ?_); refine gl_ (some 64) Tryd.func16 #[.agg #[.int .i64 a0_0, .int .i64 a0_1, .int .u64 a0_2], .int .i64 x12_3] ?_; (with_reducible refine (attestorref05_Point.calls kj31 a0_0 a0_1 a0_2 x12_3 t655 _ A40.out).mono ?_); rintro e w45 ⟨rfl, hb⟩; refine ⟨_, rfl, ?_⟩; refine nx4_ (R_below (rU_ HO_10.out) hb) (R_below (rU_ HO_11.out) hb) (blk_below (kU_ BK649.out) hb) (below_step sU_ hb) ?_; clear HO_10 HO_11 BK649 HB; intro HO_10 HO_11 BK649 HB; clear hb) | ((with_reducible refine gate_builtin (b := .append) (xs := #[.tmp 61, .tmp 65]) rfl ?_); (try (refine gate_guard (by rfl) ?_; dsimp only)); at_builtin; refine Kd.R_append (Kd.int .u64) (w0 := w) w.heap.size rfl (.tmp 61) (.tmp 65) 33 22 (.int .u64 0) 8 rfl Tryd.underlying33 info22 rfl (by decide) (by omega) u10 x10_3 t655 [.int .u64 t655] (fun k_ => some k_ ≠ (u11 : Value).ownBlock) (fun _ => False) rfl rfl ?aP (fun _ hk => hk.elim) ?aF ?aO ?aB ?aS ?aL ?_; (case aP => exact rfl); (case aB => exact sU_); (case aF => exact (fun k_ hk => fresh' (R_lt (rU_ HO_11.out)) k_ hk)); (case aO => exact (rU_ HO_10.out)); (case aS => exact (below_size sU_)); (case aL => have := LMc41.out; omega); intro v657 w46 ho hb hg hat; rw [← Ny656.out] at ho; refine nx4_ (Kd.R_after (ok := (fun _ => True)) (R_mono (rU_ HO_11.out) (fun _ hk => ⟨trivial, hk⟩)) hg hat) (blk_grown (g := gb649) (o := .cells #[.int .i64 a0_0, .int .i64 a0_1, .int .u64 a0_2] 24 (0, 0)) (kU_ BK649.out) hg (Kd.R_ne HO_10.out BK649.out (by decide))) (hb) (ho) ?_; clear HO_11 BK649 HB HO_10; intro HO_11 BK649 HB HO658; clear ho hb hg hat; have p659 : 0 ≤ (x12_3 : Int) := od_; have q659 : x12_3 < (l1.length : Int) := od_; obtain ⟨ad659, e659, hx659_0⟩ := Kd.at_int HR1.out x12_3 p659 q659; cases e659; replace hx659_0 := (HB.out.cell (World.block_lt_of_cell? w _ hx659_0)).trans hx659_0; replace p659 := eq_true p659; replace q659 := eq_true q659) | ((with_reducible refine gate_builtin (b := .append) (xs := #[.tmp 67, .tmp 72]) rfl ?_); (try (refine gate_guard (by rfl) ?_; dsimp only)); at_builtin; refine Kd.R_append (Kd.int .u64) (w0 := w) w.heap.size rfl (.tmp 67) (.tmp 72) 33 22 (.int .u64 0) 8 rfl Tryd.underlying33 info22 rfl (by decide) (by omega) u11 x11_3 (rd l1 x12_3) [.int .u64 (rd l1 x12_3)] (fun k_ => some k_ ≠ (v657 : Value).ownBlock) (fun _ => False) rfl rfl ?aP (fun _ hk => hk.elim) ?aF ?aO ?aB ?aS ?aL ?_; (case aP => exact rfl); (case aB => exact sU_); (case aF => exact (fun k_ hk => fresh' (R_lt (rU_ HO658.out)) k_ hk)); (case aO => exact (R_mono (rU_ HO_11.out) (fun _ hk => hk.2))); (case aS => exact (below_size sU_)); (case aL => have := LMc43.out; omega); intro v661 w47 ho hb hg hat; rw [← Ny660.out] at ho; refine nx4_ (blk_grown (g := gb649) (o := .cells #[.int .i64 a0_0, .int .i64 a0_1, .int .u64 a0_2] 24 (0, 0)) (kU_ BK649.out) hg (Kd.R_ne HO_11.out BK649.out (by decide))) (Kd.R_after (ok := (fun _ => True)) (R_mono (rU_ HO658.out) (fun _ hk => ⟨trivial, hk⟩)) hg hat) (hb) (ho) ?_; clear BK649 HO658 HB HO_11; intro BK649 HO658 HB HO662; clear ho hb hg hat))
           go_roundg kj31
           case measure => have := HJ4.out; have := HJ24.out; have := HK3.out; have := HJ31.out; omega
           case rel => exact ⟨(y656), (y660), (wrap64 (x12_3 + 1)), gb_, H', ⟨by have := HJ4.out; have := HJ24.out; have := HK3.out; have := HJ31.out; omega⟩, ⟨R_mono (rU_ HO658.out) (fun _ hk => hk.2)⟩, ⟨rU_ HO662.out⟩, ⟨by (with_reducible repeat (first | refine blk_drewN ?_ _ | refine blk_drew ?_ | refine blk_alloc ?_ _)); exact BK649.out⟩, ⟨sU_⟩⟩
          replace c39 := Bool.eq_false_iff.mpr c39
          subst c39
          rw [if_neg (show ¬ (false = true) by decide)] at H
          have H' := ak H
          clear H
          have p654 : 0 ≤ (x12_3 : Int) := od_
          have q654 : x12_3 < (l2.length : Int) := od_
          obtain ⟨ad654, e654, hx654_0⟩ := Kd.at_bool HR2.out x12_3 p654 q654
          (try rw [← Nbq38.out] at hx654_0)
          cases e654
          replace hx654_0 := (HB.out.cell (World.block_lt_of_cell? w _ hx654_0)).trans hx654_0
          replace p654 := eq_true p654
          replace q654 := eq_true q654
          go_wp2
          go_roundg kj31
          case measure => have := HJ4.out; have := HJ24.out; have := HK3.out; have := HJ31.out; omega
          case rel => exact ⟨(x10_3), (x11_3), (wrap64 (x12_3 + 1)), gb_, H', ⟨by have := HJ4.out; have := HJ24.out; have := HK3.out; have := HJ31.out; omega⟩, ⟨rU_ HO_10.out⟩, ⟨rU_ HO_11.out⟩, ⟨by (with_reducible repeat (first | refine blk_drewN ?_ _ | refine blk_drew ?_ | refine blk_alloc ?_ _)); exact BK649.out⟩, ⟨sU_⟩⟩
         replace c35 := Bool.eq_false_iff.mpr c35
         subst c35
         rw [if_neg (show ¬ (false = true) by decide)] at H
         by_cases c48 : (x10_3.length : Int) < a3
         ·rw [if_pos c48] at H
          have c48b0 := decide_eq_true c48
          clear c48
          simp only [Option.some.injEq, Prod.mk.injEq] at H
          obtain ⟨rfl, rfl⟩ := H
          obtain ⟨Ao49, co49, eo49⟩ := R_slice HO_10.out
          subst eo49
          go_wp2
          go_ret2
          exact ⟨_, eW_, by first | exact Kd.R_nil _ _ _ _ _ | exact Kd.N_nil _ _ _ _ _ | exact Kd.V_nil _ _ _ _ _ | exact Kd.Q_nil _ _ _ _ _ | exact Kd.S_nil _ _ _ _ _, sU_⟩
         rw [if_neg c48] at H
         have c48b0 := decide_eq_false c48
         clear c48
         revert H
         refine bd2_ fun t663 t664 A50 H => ?_
         try dsimp only at H
         have H' := ak H
         clear H
         obtain ⟨Ao51, co51, eo51⟩ := R_slice HO_10.out
         subst eo51
         have hcz52_0 := bc0_ BK649.out
         have hcz52_1 := bc1_ BK649.out
         have hcz52_2 := bc2_ BK649.out
         have hfz52_0 := blk_frozen BK649.out 0
         have hfz52_1 := blk_frozen BK649.out 1
         have hfz52_2 := blk_frozen BK649.out 2
         obtain ⟨Ao53, co53, eo53⟩ := R_slice HO_11.out
         subst eo53
         go_wp2_with (first | ((with_reducible refine gate_callee (f := 66) rfl ?_); refine gl_ (some 83) Tryd.func66 #[.int .i64 a0_0, .slice Ao51 x10_3.length co51, .slice Ao53 x11_3.length co53] ?_; (with_reducible refine (attestorref03_Through.calls kj31 a0_0 _ _ x10_3 _ _ x11_3 t663 t664 _ ?side1 ?side2 ?side3 ?side4 A50.out).mono ?_); (case side1 => exact cU_ ((R_reads' HO_10.out).2.2)); (case side2 => exact (R_reads' HO_10.out).2.1); (case side3 => exact cU_ ((R_reads' HO_11.out).2.2)); (case side4 => exact (R_reads' HO_11.out).2.1); rintro e w54 ⟨v665, rfl, ho0, hb⟩; refine ⟨_, rfl, ?_⟩; refine nx5_ (R_elder' (rU_ HO_10.out) (R_base ho0) hb) (R_elder' (rU_ HO_11.out) (R_base ho0) hb) (R_lower (R_new' (R_new' ho0 (R_lt (rU_ HO_10.out))) (R_lt (rU_ HO_11.out))) (below_size sU_)) (blk_below (kU_ BK649.out) hb) (below_step sU_ hb) ?_; clear HO_10 HO_11 BK649 HB; intro HO_10 HO_11 HO666 BK649 HB; clear hb ho0))
         go_loopg [15, 16] kj31 (fun kq v15 v16 w' => ∃ (x15_5 : List Int) (x16_5 : Int), v16 = .int .i64 x16_5 ∧ Aside0 (attestorref05_Fill.l1 kq l1 l2 t663 x15_5 x16_5 a0_0 a0_1 a0_2 = some (r1, r2)) ∧ Aside0 (kq ≤ kj31) ∧ Aside0 (Kd.R (Kd.int .u64) 22 w' w.heap.size (fun k_ => some k_ ≠ (v15 : Value).ownBlock) v665 t663) ∧ Aside0 (Kd.R (Kd.int .u64) 22 w' w.heap.size (fun k_ => some k_ ≠ (v665 : Value).ownBlock) v15 x15_5) ∧ Aside0 (w'.heap[gb649]? = some (.cells #[.int .i64 a0_0, .int .i64 a0_1, .int .u64 a0_2] 24 (0, 0))) ∧ Aside0 (Below w.heap.size w w'))
         case atStart => exact ⟨(([] : List Int)), (0), gb_, H', ⟨Nat.le_refl _⟩, ⟨R_mono (rU_ HO666.out) (fun _ hk => (by simp [Value.ownBlock]))⟩, ⟨by first | exact Kd.R_nil _ _ _ _ _ | exact Kd.N_nil _ _ _ _ _ | exact Kd.V_nil _ _ _ _ _ | exact Kd.Q_nil _ _ _ _ _ | exact Kd.S_nil _ _ _ _ _⟩, ⟨by (with_reducible repeat (first | refine blk_drewN ?_ _ | refine blk_drew ?_ | refine blk_alloc ?_ _)); exact BK649.out⟩, ⟨sU_⟩⟩
         case round =>
          clear H'
          (try clear c1); (try clear c2); (try clear p2); (try clear c3); (try clear q3); (try clear c4); (try clear c6); (try clear p6); (try clear q6); (try clear hx6); (try clear c8); (try clear c10); (try clear c10b0); (try clear c10b1); (try clear c12); (try clear c16); (try clear c24); (try clear c26); (try clear c26b0); (try clear c26b1); (try clear c30); (try clear c31); (try clear c31b0); (try clear c33); (try clear c33b0); (try clear c33b1); (try clear c35); (try clear c36); (try clear c36b0); (try clear c37); (try clear c37b0); (try clear q38); (try clear c39); (try clear c41); (try clear c42); (try clear c42b0); (try clear c43); (try clear c48); (try clear c48b0); (try clear hcz12_0); (try clear hcz12_1); (try clear hcz12_2); (try clear hcz14_0); (try clear hcz14_1); (try clear hcz14_2); (try clear hcz16_0); (try clear hcz16_1); (try clear hcz16_2); (try clear hcz18_0); (try clear hcz18_1); (try clear hcz18_2); (try clear hcz20_0); (try clear hcz20_1); (try clear hcz20_2); (try clear hcz22_0); (try clear hcz22_1); (try clear hcz22_2); (try clear hcz28_0); (try clear hcz28_1); (try clear hcz28_2); (try clear hcz44_0); (try clear hcz44_1); (try clear hcz44_2); (try clear hcz52_0); (try clear hcz52_1); (try clear hcz52_2); (try clear hfz12_0); (try clear hfz12_1); (try clear hfz12_2); (try clear hfz14_0); (try clear hfz14_1); (try clear hfz14_2); (try clear hfz16_0); (try clear hfz16_1); (try clear hfz16_2); (try clear hfz18_0); (try clear hfz18_1); (try clear hfz18_2); (try clear hfz20_0); (try clear hfz20_1); (try clear hfz20_2); (try clear hfz22_0); (try clear hfz22_1); (try clear hfz22_2); (try clear hfz28_0); (try clear hfz28_1); (try clear hfz28_2); (try clear hfz44_0); (try clear hfz44_1); (try clear hfz44_2); (try clear hfz52_0); (try clear hfz52_1); (try clear hfz52_2); (try clear hx654_0); (try clear hx659_0); (try clear p654); (try clear p659); (try clear q654); (try clear q659)
          obtain ⟨x15_5, x16_5, rfl, HA, HK5, HO_13, HO_15, BK649, HB⟩ := hrel
          cases gk with
          | zero => exact absurd HA.out (by simp [attestorref05_Fill.l1])
          | succ k5 =>
           have H := HA.out
           clear HA
           simp only [attestorref05_Fill.l1] at H
           by_cases c55 : x16_5 < (l1.length : Int)
           ·rw [if_pos c55] at H
            have c55b0 := decide_eq_true c55
            clear c55
            revert H
            refine bd_ fun t667 A56 H => ?_
            revert H
            refine bd_ fun t668 A57 H => ?_
            obtain ⟨c58, H⟩ : (0 ≤ x16_5) ∧ _ := it_ H
            have c58b0 := decide_eq_true c58
            clear c58
            obtain ⟨c59, H⟩ : (x16_5 < (l2.length : Int)) ∧ _ := it_ H
            have c59b0 := decide_eq_true c59
            clear c59
            obtain ⟨bq60, hbq60⟩ : ∃ b_ : Bool, b_ = (rdOf false l2 x16_5) := ⟨_, rfl⟩
            replace H : (if bq60 = true then ((attestorref01_Reduce.f a0_0 (rd l1 x16_5)).bind fun t671 => (if t668 = t671 then (if x15_5.length < 17592186044416 then (attestorref05_Fill.l1 k5 l1 l2 t663 (x15_5 ++ [t668]) (wrap64 (x16_5 + 1)) a0_0 a0_1 a0_2) else (none)) else (some (([] : List Int), 7)))) else (if x15_5.length < 17592186044416 then (attestorref05_Fill.l1 k5 l1 l2 t663 (x15_5 ++ [t668]) (wrap64 (x16_5 + 1)) a0_0 a0_1 a0_2) else (none))) = some (r1, r2) := by rw [← hbq60] at H; exact H
            have Nbq60 := ak hbq60
            clear hbq60
            by_cases c61 : bq60 = true
            ·subst c61
             rw [if_pos rfl] at H
             revert H
             refine bd_ fun t671 A62 H => ?_
             by_cases c63 : t668 = t671
             ·rw [if_pos c63] at H
              have c63b0 := beq_iff_eq.mpr c63
              have c63b1 := bne_eq_false_iff_eq.mpr c63
              clear c63
              obtain ⟨c64, H⟩ : (x15_5.length < 17592186044416) ∧ _ := it_ H
              have LMc64 := ak c64
              clear c64
              obtain ⟨y672, hy672⟩ : ∃ y_ : List Int, y_ = (x15_5 ++ [t668]) := ⟨_, rfl⟩
              first | rw [Option.bind_some, ← hy672] at H | rw [← hy672] at H
              have Ny672 := ak hy672
              clear hy672
              have H' := ak H
              clear H
              try go_wp2
              refine nx4_ (R_drew HO_13.out) (R_drew HO_15.out) (blk_drew BK649.out) (below_drew1 HB.out) ?_
              clear HO_13 HO_15 BK649 HB
              intro HO_13 HO_15 BK649 HB
              refine start_ (n := 8) (S := fun w' => w'.cell? ⟨gb649, 0, none⟩ = some (.int .i64 a0_0) ∧ w'.cell? ⟨gb649, 1, none⟩ = some (.int .i64 a0_1) ∧ w'.cell? ⟨gb649, 2, none⟩ = some (.int .u64 a0_2)) (ds := []) (bv 8 0) (by kernel_rfl) rfl rfl ⟨bc0_ BK649.out, bc1_ BK649.out, bc2_ BK649.out⟩ (fun hHeld => ?_); refine with_tabW attestorref05_Fill.tab21 attestorref05_Fill.bits21 (fun HT_ HW_ => ?_)
              generalize wr.drew = w65 at HO_13 HO_15 BK649 HB hHeld ⊢
              refine pq_ 0 92 8 1 HT_.out ?_
              refine pq_ 2 94 8 5 HT_.out ?_
              refine pq_ 4 96 8 21 HT_.out ?_
              refine tq_ 1 93 8 23 HT_.out HW_.out hHeld ?_
              refine tq_ 3 95 8 31 HT_.out HW_.out hHeld ?_
              refine oq_ 5 97 8 63 HT_.out fun K hK => ?_
              refine gs_ Tryd.func16 #[.agg #[.int .i64 a0_0, .int .i64 a0_1, .int .u64 a0_2], .int .i64 x16_5] ?_
              with_reducible refine (attestorref05_Point.calls k5 a0_0 a0_1 a0_2 x16_5 t667 _ A56.out).mono ?_
              rintro e w66 ⟨rfl, hb⟩
              refine ⟨_, rfl, ?_⟩
              refine nx4_ (R_below (rU_ HO_13.out) hb) (R_below (rU_ HO_15.out) hb) (blk_below (kU_ BK649.out) hb) (below_step sU_ hb) ?_
              clear HO_13 HO_15 BK649 HB
              intro HO_13 HO_15 BK649 HB
              (try clear hb)
              (try clear hb2)
              (try clear hk)
              (try clear hi)
              obtain ⟨Ao67, co67, eo67⟩ := R_slice HO_13.out
              (first | subst eo67 | (injection eo67 with f1_ f2_ f3_; have f4_ := f1_.symm; have f5_ := f3_.symm; clear f1_ f2_ f3_; subst f4_; subst f5_))
              refine hK.out _ _ ⟨bc0_ BK649.out, bc1_ BK649.out, bc2_ BK649.out⟩ (fun hHeld => ?_)
              clear hK K
              refine norm_ (a' := ?_) ?_ ?_
              rotate_left
              ·show Act.put _ (some 97) _ = _
               simp only [Act.put, s1_, s2_, s3_, i64_w, i32_w]
               rfl
              refine oq_ 6 98 8 127 HT_.out fun K hK => ?_
              refine gs_ Tryd.func67 #[.int .i64 a0_0, .slice Ao67 t663.length co67, .int .u64 t667] ?_
              with_reducible refine (attestorref03_Eval.calls k5 a0_0 _ _ t663 t667 t668 _ ?side1 ?side2 A57.out).mono ?_
              (case side1 => exact cU_ ((R_reads' HO_13.out).2.2))
              (case side2 => exact (R_reads' HO_13.out).2.1)
              rintro e w' ⟨rfl, ⟨nd, rfl⟩⟩
              refine ⟨_, rfl, ?_⟩
              refine hK.out _ _ ⟨bc0_ BK649.out, bc1_ BK649.out, bc2_ BK649.out⟩ (fun hHeld => ?_)
              clear hK K
              refine norm_ (a' := ?_) ?_ ?_
              rotate_left
              ·show Act.put _ (some 98) _ = _
               simp only [Act.put, s1_, s2_, s3_, i64_w, i32_w]
               rfl
              refine pq_ 7 17 8 255 HT_.out ?_
              refine done_ (done_of HT_.out (by kernel_rfl)) ?_
              try go_wp2
              (try (rw [drewN_self w66]; generalize hq_ : World.drewN w66 _ = w66; have n0_ : Aside0 (Kd.R (Kd.int .u64) 22 w66 w.heap.size (fun k_ => some k_ ≠ (u15 : Value).ownBlock) (.slice Ao67 t663.length co67) t663) := ⟨by rw [← hq_]; exact (rU_ HO_13.out)⟩; have n1_ : Aside0 (Kd.R (Kd.int .u64) 22 w66 w.heap.size (fun k_ => some k_ ≠ (.slice Ao67 t663.length co67 : Value).ownBlock) u15 x15_5) := ⟨by rw [← hq_]; exact (rU_ HO_15.out)⟩; have n2_ : Aside0 (w66.heap[gb649]? = some (.cells #[.int .i64 a0_0, .int .i64 a0_1, .int .u64 a0_2] 24 (0, 0))) := ⟨by rw [← hq_]; exact (kU_ BK649.out)⟩; have n3_ : Aside0 (Below w.heap.size w w66) := ⟨by rw [← hq_]; exact sU_⟩; clear HO_13 HO_15 BK649 HB hq_; have HO_13 := n0_; have HO_15 := n1_; have BK649 := n2_; have HB := n3_; clear n0_ n1_ n2_ n3_))
              refine nx4_ (R_drew HO_13.out) (R_drew HO_15.out) (blk_drew BK649.out) (below_drew1 HB.out) ?_
              clear HO_13 HO_15 BK649 HB
              intro HO_13 HO_15 BK649 HB
              have p669 : 0 ≤ (x16_5 : Int) := od_
              have q669 : x16_5 < (l2.length : Int) := od_
              obtain ⟨ad669, e669, hx669_0⟩ := Kd.at_bool HR2.out x16_5 p669 q669
              have hw669_0 := hx669_0
              (try rw [← Nbq60.out] at hw669_0)
              (try rw [← Nbq60.out] at hx669_0)
              cases e669
              replace hx669_0 := (HB.out.cell (World.block_lt_of_cell? w _ hx669_0)).trans hx669_0
              replace p669 := eq_true p669
              replace q669 := eq_true q669
              have p670 : 0 ≤ (x16_5 : Int) := od_
              have q670 : x16_5 < (l1.length : Int) := od_
              obtain ⟨ad670, e670, hx670_0⟩ := Kd.at_int HR1.out x16_5 p670 q670
              have hw670_0 := hx670_0
              (try rw [← Nbq60.out] at hw670_0)
              cases e670
              replace hx670_0 := (HB.out.cell (World.block_lt_of_cell? w _ hx670_0)).trans hx670_0
              replace p670 := eq_true p670
              replace q670 := eq_true q670
              refine start_ (n := 15) (S := fun w' => w'.cell? ⟨gb649, 0, none⟩ = some (.int .i64 a0_0) ∧ w'.cell? ⟨gb649, 1, none⟩ = some (.int .i64 a0_1) ∧ w'.cell? ⟨gb649, 2, none⟩ = some (.int .u64 a0_2) ∧ w'.cell? (ad669.add (x16_5).toNat) = some (.bool true) ∧ w'.cell? (ad670.add (x16_5).toNat) = some (.int .u64 (rd l1 x16_5))) (ds := []) (bv 15 0) (by kernel_rfl) rfl rfl ⟨bc0_ BK649.out, bc1_ BK649.out, bc2_ BK649.out, ((HB.out.cell (World.block_lt_of_cell? w _ hw669_0)).trans hw669_0), ((HB.out.cell (World.block_lt_of_cell? w _ hw670_0)).trans hw670_0)⟩ (fun hHeld => ?_); refine with_tabW attestorref05_Fill.tab22 attestorref05_Fill.bits22 (fun HT_ HW_ => ?_)
              generalize w66.drew = w68 at HO_13 HO_15 BK649 HB hx669_0 hx670_0 hHeld ⊢
              refine pq_ 0 99 15 1 HT_.out ?_
              refine pq_ 1 100 15 3 HT_.out ?_
              refine pq_ 2 101 15 7 HT_.out ?_
              refine tq_ 3 102 15 15 HT_.out HW_.out hHeld ?_
              refine pq_ 4 103 15 31 HT_.out ?_
              refine pq_ 5 104 15 63 HT_.out ?_
              refine pq_ 6 105 15 127 HT_.out ?_
              refine pq_ 8 107 15 383 HT_.out ?_
              refine pq_ 9 108 15 895 HT_.out ?_
              refine pq_ 10 109 15 1919 HT_.out ?_
              refine tq_ 7 106 15 2047 HT_.out HW_.out hHeld ?_
              refine tq_ 11 110 15 4095 HT_.out HW_.out hHeld ?_
              refine oq_ 12 111 15 8191 HT_.out fun K hK => ?_
              refine gs_ Tryd.func68 #[.int .i64 a0_0, .int .u64 (rd l1 x16_5)] ?_
              with_reducible refine (attestorref01_Reduce.calls a0_0 (rd l1 x16_5) t671 _ A62.out).mono ?_
              rintro e w' ⟨rfl, ⟨nd, rfl⟩⟩
              refine ⟨_, rfl, ?_⟩
              refine hK.out _ _ ⟨bc0_ BK649.out, bc1_ BK649.out, bc2_ BK649.out, ((HB.out.cell (World.block_lt_of_cell? w _ hw669_0)).trans hw669_0), ((HB.out.cell (World.block_lt_of_cell? w _ hw670_0)).trans hw670_0)⟩ (fun hHeld => ?_)
              clear hK K
              refine norm_ (a' := ?_) ?_ ?_
              rotate_left
              ·show Act.put _ (some 111) _ = _
               simp only [Act.put, s1_, s2_, s3_, i64_w, i32_w]
               rfl
              refine pq_ 13 112 15 16383 HT_.out ?_
              refine pq_ 14 113 15 32767 HT_.out ?_
              refine done_ (done_of HT_.out (by kernel_rfl)) ?_
              try go_wp2_with (first | ((with_reducible refine gate_builtin (b := .append) (xs := #[.tmp 114, .tmp 116]) rfl ?_); (try (refine gate_guard (by rfl) ?_; dsimp only)); at_builtin; refine Kd.R_append (Kd.int .u64) (w0 := w) w.heap.size rfl (.tmp 114) (.tmp 116) 33 22 (.int .u64 0) 8 rfl Tryd.underlying33 info22 rfl (by decide) (by omega) u15 x15_5 t668 [.int .u64 t668] (fun k_ => some k_ ≠ (.slice Ao67 t663.length co67 : Value).ownBlock) (fun _ => False) rfl rfl ?aP (fun _ hk => hk.elim) ?aF ?aO ?aB ?aS ?aL ?_; (case aP => exact rfl); (case aB => exact sU_); (case aF => exact (fun k_ hk => fresh' (R_lt (rU_ HO_13.out)) k_ hk)); (case aO => exact (rU_ HO_15.out)); (case aS => exact (below_size sU_)); (case aL => have := LMc64.out; omega); intro v673 w69 ho hb hg hat; rw [← Ny672.out] at ho; refine nx4_ (Kd.R_after (ok := (fun _ => True)) (R_mono (rU_ HO_13.out) (fun _ hk => ⟨trivial, hk⟩)) hg hat) (blk_grown (g := gb649) (o := .cells #[.int .i64 a0_0, .int .i64 a0_1, .int .u64 a0_2] 24 (0, 0)) (kU_ BK649.out) hg (Kd.R_ne HO_15.out BK649.out (by decide))) (hb) (ho) ?_; clear HO_13 BK649 HB HO_15; intro HO_13 BK649 HB HO674; clear ho hb hg hat))
              go_roundg k5
              case measure => have := HJ4.out; have := HJ24.out; have := HK3.out; have := HJ31.out; have := HK5.out; omega
              case rel => exact ⟨(y672), (wrap64 (x16_5 + 1)), gb_, H', ⟨by have := HJ4.out; have := HJ24.out; have := HK3.out; have := HJ31.out; have := HK5.out; omega⟩, ⟨R_mono (rU_ HO_13.out) (fun _ hk => hk.2)⟩, ⟨rU_ HO674.out⟩, ⟨by (with_reducible repeat (first | refine blk_drewN ?_ _ | refine blk_drew ?_ | refine blk_alloc ?_ _)); exact BK649.out⟩, ⟨sU_⟩⟩
             rw [if_neg c63] at H
             have c63b0 := beq_eq_false_iff_ne.mpr c63
             have c63b1 := bne_iff_ne.mpr c63
             simp only [Option.some.injEq, Prod.mk.injEq] at H
             obtain ⟨rfl, rfl⟩ := H
             try go_wp2
             refine nx4_ (R_drew HO_13.out) (R_drew HO_15.out) (blk_drew BK649.out) (below_drew1 HB.out) ?_
             clear HO_13 HO_15 BK649 HB
             intro HO_13 HO_15 BK649 HB
             refine start_ (n := 8) (S := fun w' => w'.cell? ⟨gb649, 0, none⟩ = some (.int .i64 a0_0) ∧ w'.cell? ⟨gb649, 1, none⟩ = some (.int .i64 a0_1) ∧ w'.cell? ⟨gb649, 2, none⟩ = some (.int .u64 a0_2)) (ds := []) (bv 8 0) (by kernel_rfl) rfl rfl ⟨bc0_ BK649.out, bc1_ BK649.out, bc2_ BK649.out⟩ (fun hHeld => ?_); refine with_tabW attestorref05_Fill.tab21 attestorref05_Fill.bits21 (fun HT_ HW_ => ?_)
             generalize wr.drew = w70 at HO_13 HO_15 BK649 HB hHeld ⊢
             refine pq_ 0 92 8 1 HT_.out ?_
             refine pq_ 2 94 8 5 HT_.out ?_
             refine pq_ 4 96 8 21 HT_.out ?_
             refine tq_ 1 93 8 23 HT_.out HW_.out hHeld ?_
             refine tq_ 3 95 8 31 HT_.out HW_.out hHeld ?_
             refine oq_ 5 97 8 63 HT_.out fun K hK => ?_
             refine gs_ Tryd.func16 #[.agg #[.int .i64 a0_0, .int .i64 a0_1, .int .u64 a0_2], .int .i64 x16_5] ?_
             with_reducible refine (attestorref05_Point.calls k5 a0_0 a0_1 a0_2 x16_5 t667 _ A56.out).mono ?_
             rintro e w71 ⟨rfl, hb⟩
             refine ⟨_, rfl, ?_⟩
             refine nx4_ (R_below (rU_ HO_13.out) hb) (R_below (rU_ HO_15.out) hb) (blk_below (kU_ BK649.out) hb) (below_step sU_ hb) ?_
             clear HO_13 HO_15 BK649 HB
             intro HO_13 HO_15 BK649 HB
             (try clear hb)
             (try clear hb2)
             (try clear hk)
             (try clear hi)
             obtain ⟨Ao72, co72, eo72⟩ := R_slice HO_13.out
             (first | subst eo72 | (injection eo72 with f1_ f2_ f3_; have f4_ := f1_.symm; have f5_ := f3_.symm; clear f1_ f2_ f3_; subst f4_; subst f5_))
             refine hK.out _ _ ⟨bc0_ BK649.out, bc1_ BK649.out, bc2_ BK649.out⟩ (fun hHeld => ?_)
             clear hK K
             refine norm_ (a' := ?_) ?_ ?_
             rotate_left
             ·show Act.put _ (some 97) _ = _
              simp only [Act.put, s1_, s2_, s3_, i64_w, i32_w]
              rfl
             refine oq_ 6 98 8 127 HT_.out fun K hK => ?_
             refine gs_ Tryd.func67 #[.int .i64 a0_0, .slice Ao72 t663.length co72, .int .u64 t667] ?_
             with_reducible refine (attestorref03_Eval.calls k5 a0_0 _ _ t663 t667 t668 _ ?side1 ?side2 A57.out).mono ?_
             (case side1 => exact cU_ ((R_reads' HO_13.out).2.2))
             (case side2 => exact (R_reads' HO_13.out).2.1)
             rintro e w' ⟨rfl, ⟨nd, rfl⟩⟩
             refine ⟨_, rfl, ?_⟩
             refine hK.out _ _ ⟨bc0_ BK649.out, bc1_ BK649.out, bc2_ BK649.out⟩ (fun hHeld => ?_)
             clear hK K
             refine norm_ (a' := ?_) ?_ ?_
             rotate_left
             ·show Act.put _ (some 98) _ = _
              simp only [Act.put, s1_, s2_, s3_, i64_w, i32_w]
              rfl
             refine pq_ 7 17 8 255 HT_.out ?_
             refine done_ (done_of HT_.out (by kernel_rfl)) ?_
             try go_wp2
             (try (rw [drewN_self w71]; generalize hq_ : World.drewN w71 _ = w71; have n0_ : Aside0 (Kd.R (Kd.int .u64) 22 w71 w.heap.size (fun k_ => some k_ ≠ (u15 : Value).ownBlock) (.slice Ao72 t663.length co72) t663) := ⟨by rw [← hq_]; exact (rU_ HO_13.out)⟩; have n1_ : Aside0 (Kd.R (Kd.int .u64) 22 w71 w.heap.size (fun k_ => some k_ ≠ (.slice Ao72 t663.length co72 : Value).ownBlock) u15 x15_5) := ⟨by rw [← hq_]; exact (rU_ HO_15.out)⟩; have n2_ : Aside0 (w71.heap[gb649]? = some (.cells #[.int .i64 a0_0, .int .i64 a0_1, .int .u64 a0_2] 24 (0, 0))) := ⟨by rw [← hq_]; exact (kU_ BK649.out)⟩; have n3_ : Aside0 (Below w.heap.size w w71) := ⟨by rw [← hq_]; exact sU_⟩; clear HO_13 HO_15 BK649 HB hq_; have HO_13 := n0_; have HO_15 := n1_; have BK649 := n2_; have HB := n3_; clear n0_ n1_ n2_ n3_))
             refine nx4_ (R_drew HO_13.out) (R_drew HO_15.out) (blk_drew BK649.out) (below_drew1 HB.out) ?_
             clear HO_13 HO_15 BK649 HB
             intro HO_13 HO_15 BK649 HB
             have p669 : 0 ≤ (x16_5 : Int) := od_
             have q669 : x16_5 < (l2.length : Int) := od_
             obtain ⟨ad669, e669, hx669_0⟩ := Kd.at_bool HR2.out x16_5 p669 q669
             have hw669_0 := hx669_0
             (try rw [← Nbq60.out] at hw669_0)
             (try rw [← Nbq60.out] at hx669_0)
             cases e669
             replace hx669_0 := (HB.out.cell (World.block_lt_of_cell? w _ hx669_0)).trans hx669_0
             replace p669 := eq_true p669
             replace q669 := eq_true q669
             have p670 : 0 ≤ (x16_5 : Int) := od_
             have q670 : x16_5 < (l1.length : Int) := od_
             obtain ⟨ad670, e670, hx670_0⟩ := Kd.at_int HR1.out x16_5 p670 q670
             have hw670_0 := hx670_0
             (try rw [← Nbq60.out] at hw670_0)
             cases e670
             replace hx670_0 := (HB.out.cell (World.block_lt_of_cell? w _ hx670_0)).trans hx670_0
             replace p670 := eq_true p670
             replace q670 := eq_true q670
             refine start_ (n := 15) (S := fun w' => w'.cell? ⟨gb649, 0, none⟩ = some (.int .i64 a0_0) ∧ w'.cell? ⟨gb649, 1, none⟩ = some (.int .i64 a0_1) ∧ w'.cell? ⟨gb649, 2, none⟩ = some (.int .u64 a0_2) ∧ w'.cell? (ad669.add (x16_5).toNat) = some (.bool true) ∧ w'.cell? (ad670.add (x16_5).toNat) = some (.int .u64 (rd l1 x16_5))) (ds := []) (bv 15 0) (by kernel_rfl) rfl rfl ⟨bc0_ BK649.out, bc1_ BK649.out, bc2_ BK649.out, ((HB.out.cell (World.block_lt_of_cell? w _ hw669_0)).trans hw669_0), ((HB.out.cell (World.block_lt_of_cell? w _ hw670_0)).trans hw670_0)⟩ (fun hHeld => ?_); refine with_tabW attestorref05_Fill.tab22 attestorref05_Fill.bits22 (fun HT_ HW_ => ?_)
             generalize w71.drew = w73 at HO_13 HO_15 BK649 HB hx669_0 hx670_0 hHeld ⊢
             refine pq_ 0 99 15 1 HT_.out ?_
             refine pq_ 1 100 15 3 HT_.out ?_
             refine pq_ 2 101 15 7 HT_.out ?_
             refine tq_ 3 102 15 15 HT_.out HW_.out hHeld ?_
             refine pq_ 4 103 15 31 HT_.out ?_
             refine pq_ 5 104 15 63 HT_.out ?_
             refine pq_ 6 105 15 127 HT_.out ?_
             refine pq_ 8 107 15 383 HT_.out ?_
             refine pq_ 9 108 15 895 HT_.out ?_
             refine pq_ 10 109 15 1919 HT_.out ?_
             refine tq_ 7 106 15 2047 HT_.out HW_.out hHeld ?_
             refine tq_ 11 110 15 4095 HT_.out HW_.out hHeld ?_
             refine oq_ 12 111 15 8191 HT_.out fun K hK => ?_
             refine gs_ Tryd.func68 #[.int .i64 a0_0, .int .u64 (rd l1 x16_5)] ?_
             with_reducible refine (attestorref01_Reduce.calls a0_0 (rd l1 x16_5) t671 _ A62.out).mono ?_
             rintro e w' ⟨rfl, ⟨nd, rfl⟩⟩
             refine ⟨_, rfl, ?_⟩
             refine hK.out _ _ ⟨bc0_ BK649.out, bc1_ BK649.out, bc2_ BK649.out, ((HB.out.cell (World.block_lt_of_cell? w _ hw669_0)).trans hw669_0), ((HB.out.cell (World.block_lt_of_cell? w _ hw670_0)).trans hw670_0)⟩ (fun hHeld => ?_)
             clear hK K
             refine norm_ (a' := ?_) ?_ ?_
             rotate_left
             ·show Act.put _ (some 111) _ = _
              simp only [Act.put, s1_, s2_, s3_, i64_w, i32_w]
              rfl
             refine pq_ 13 112 15 16383 HT_.out ?_
             refine pq_ 14 113 15 32767 HT_.out ?_
             refine done_ (done_of HT_.out (by kernel_rfl)) ?_
             try go_wp2
             go_ret2
             exact ⟨_, eW_, by first | exact Kd.R_nil _ _ _ _ _ | exact Kd.N_nil _ _ _ _ _ | exact Kd.V_nil _ _ _ _ _ | exact Kd.Q_nil _ _ _ _ _ | exact Kd.S_nil _ _ _ _ _, sU_⟩
            replace c61 := Bool.eq_false_iff.mpr c61
            subst c61
            rw [if_neg (show ¬ (false = true) by decide)] at H
            obtain ⟨c74, H⟩ : (x15_5.length < 17592186044416) ∧ _ := it_ H
            have LMc74 := ak c74
            clear c74
            obtain ⟨y675, hy675⟩ : ∃ y_ : List Int, y_ = (x15_5 ++ [t668]) := ⟨_, rfl⟩
            first | rw [Option.bind_some, ← hy675] at H | rw [← hy675] at H
            have Ny675 := ak hy675
            clear hy675
            have H' := ak H
            clear H
            try go_wp2
            refine nx4_ (R_drew HO_13.out) (R_drew HO_15.out) (blk_drew BK649.out) (below_drew1 HB.out) ?_
            clear HO_13 HO_15 BK649 HB
            intro HO_13 HO_15 BK649 HB
            refine start_ (n := 8) (S := fun w' => w'.cell? ⟨gb649, 0, none⟩ = some (.int .i64 a0_0) ∧ w'.cell? ⟨gb649, 1, none⟩ = some (.int .i64 a0_1) ∧ w'.cell? ⟨gb649, 2, none⟩ = some (.int .u64 a0_2)) (ds := []) (bv 8 0) (by kernel_rfl) rfl rfl ⟨bc0_ BK649.out, bc1_ BK649.out, bc2_ BK649.out⟩ (fun hHeld => ?_); refine with_tabW attestorref05_Fill.tab21 attestorref05_Fill.bits21 (fun HT_ HW_ => ?_)
            generalize wr.drew = w75 at HO_13 HO_15 BK649 HB hHeld ⊢
            refine pq_ 0 92 8 1 HT_.out ?_
            refine pq_ 2 94 8 5 HT_.out ?_
            refine pq_ 4 96 8 21 HT_.out ?_
            refine tq_ 1 93 8 23 HT_.out HW_.out hHeld ?_
            refine tq_ 3 95 8 31 HT_.out HW_.out hHeld ?_
            refine oq_ 5 97 8 63 HT_.out fun K hK => ?_
            refine gs_ Tryd.func16 #[.agg #[.int .i64 a0_0, .int .i64 a0_1, .int .u64 a0_2], .int .i64 x16_5] ?_
            with_reducible refine (attestorref05_Point.calls k5 a0_0 a0_1 a0_2 x16_5 t667 _ A56.out).mono ?_
            rintro e w76 ⟨rfl, hb⟩
            refine ⟨_, rfl, ?_⟩
            refine nx4_ (R_below (rU_ HO_13.out) hb) (R_below (rU_ HO_15.out) hb) (blk_below (kU_ BK649.out) hb) (below_step sU_ hb) ?_
            clear HO_13 HO_15 BK649 HB
            intro HO_13 HO_15 BK649 HB
            (try clear hb)
            (try clear hb2)
            (try clear hk)
            (try clear hi)
            obtain ⟨Ao77, co77, eo77⟩ := R_slice HO_13.out
            (first | subst eo77 | (injection eo77 with f1_ f2_ f3_; have f4_ := f1_.symm; have f5_ := f3_.symm; clear f1_ f2_ f3_; subst f4_; subst f5_))
            refine hK.out _ _ ⟨bc0_ BK649.out, bc1_ BK649.out, bc2_ BK649.out⟩ (fun hHeld => ?_)
            clear hK K
            refine norm_ (a' := ?_) ?_ ?_
            rotate_left
            ·show Act.put _ (some 97) _ = _
             simp only [Act.put, s1_, s2_, s3_, i64_w, i32_w]
             rfl
            refine oq_ 6 98 8 127 HT_.out fun K hK => ?_
            refine gs_ Tryd.func67 #[.int .i64 a0_0, .slice Ao77 t663.length co77, .int .u64 t667] ?_
            with_reducible refine (attestorref03_Eval.calls k5 a0_0 _ _ t663 t667 t668 _ ?side1 ?side2 A57.out).mono ?_
            (case side1 => exact cU_ ((R_reads' HO_13.out).2.2))
            (case side2 => exact (R_reads' HO_13.out).2.1)
            rintro e w' ⟨rfl, ⟨nd, rfl⟩⟩
            refine ⟨_, rfl, ?_⟩
            refine hK.out _ _ ⟨bc0_ BK649.out, bc1_ BK649.out, bc2_ BK649.out⟩ (fun hHeld => ?_)
            clear hK K
            refine norm_ (a' := ?_) ?_ ?_
            rotate_left
            ·show Act.put _ (some 98) _ = _
             simp only [Act.put, s1_, s2_, s3_, i64_w, i32_w]
             rfl
            refine pq_ 7 17 8 255 HT_.out ?_
            refine done_ (done_of HT_.out (by kernel_rfl)) ?_
            try go_wp2
            (try (rw [drewN_self w76]; generalize hq_ : World.drewN w76 _ = w76; have n0_ : Aside0 (Kd.R (Kd.int .u64) 22 w76 w.heap.size (fun k_ => some k_ ≠ (u15 : Value).ownBlock) (.slice Ao77 t663.length co77) t663) := ⟨by rw [← hq_]; exact (rU_ HO_13.out)⟩; have n1_ : Aside0 (Kd.R (Kd.int .u64) 22 w76 w.heap.size (fun k_ => some k_ ≠ (.slice Ao77 t663.length co77 : Value).ownBlock) u15 x15_5) := ⟨by rw [← hq_]; exact (rU_ HO_15.out)⟩; have n2_ : Aside0 (w76.heap[gb649]? = some (.cells #[.int .i64 a0_0, .int .i64 a0_1, .int .u64 a0_2] 24 (0, 0))) := ⟨by rw [← hq_]; exact (kU_ BK649.out)⟩; have n3_ : Aside0 (Below w.heap.size w w76) := ⟨by rw [← hq_]; exact sU_⟩; clear HO_13 HO_15 BK649 HB hq_; have HO_13 := n0_; have HO_15 := n1_; have BK649 := n2_; have HB := n3_; clear n0_ n1_ n2_ n3_))
            refine nx4_ (R_drew HO_13.out) (R_drew HO_15.out) (blk_drew BK649.out) (below_drew1 HB.out) ?_
            clear HO_13 HO_15 BK649 HB
            intro HO_13 HO_15 BK649 HB
            have p669 : 0 ≤ (x16_5 : Int) := od_
            have q669 : x16_5 < (l2.length : Int) := od_
            obtain ⟨ad669, e669, hx669_0⟩ := Kd.at_bool HR2.out x16_5 p669 q669
            have hw669_0 := hx669_0
            (try rw [← Nbq60.out] at hw669_0)
            (try rw [← Nbq60.out] at hx669_0)
            cases e669
            replace hx669_0 := (HB.out.cell (World.block_lt_of_cell? w _ hx669_0)).trans hx669_0
            replace p669 := eq_true p669
            replace q669 := eq_true q669
            refine start_ (n := 15) (S := fun w' => w'.cell? (ad669.add (x16_5).toNat) = some (.bool false)) (ds := []) (bv 15 0) (by kernel_rfl) rfl rfl (((HB.out.cell (World.block_lt_of_cell? w _ hw669_0)).trans hw669_0)) (fun hHeld => ?_); refine with_tabW attestorref05_Fill.tab22 attestorref05_Fill.bits22 (fun HT_ HW_ => ?_)
            generalize w76.drew = w78 at HO_13 HO_15 BK649 HB hx669_0 hHeld ⊢
            refine pq_ 0 99 15 1 HT_.out ?_
            refine pq_ 1 100 15 3 HT_.out ?_
            refine pq_ 2 101 15 7 HT_.out ?_
            refine take_ (i := 3) (N := some 102) (v := ?_) (a' := ?_) (bv 15 15) rfl rfl (take_ofW HT_.out HW_.out (by kernel_rfl)) (fun _ _ _ h => h) (Or.inl ⟨by rfl, ?_⟩) hHeld ?_ ?_
            rotate_left
            ·intro w' s0
             go_simp
             with_reducible rfl
            rotate_left
            ·simp only [Act.put, s1_, s2_, s3_, i64_w, i32_w]
             rfl
            refine pq_ 4 103 15 31 HT_.out ?_
            refine uq_ 5 104 15 63 HT_.out ?_
            refine uq_ 6 105 15 127 HT_.out ?_
            refine uq_ 7 106 15 255 HT_.out ?_
            refine uq_ 8 107 15 511 HT_.out ?_
            refine uq_ 9 108 15 1023 HT_.out ?_
            refine uq_ 10 109 15 2047 HT_.out ?_
            refine uq_ 11 110 15 4095 HT_.out ?_
            refine uq_ 12 111 15 8191 HT_.out ?_
            refine uq_ 13 112 15 16383 HT_.out ?_
            refine pq_ 14 113 15 32767 HT_.out ?_
            refine done_ (done_of HT_.out (by kernel_rfl)) ?_
            try go_wp2_with (first | ((with_reducible refine gate_builtin (b := .append) (xs := #[.tmp 114, .tmp 116]) rfl ?_); (try (refine gate_guard (by rfl) ?_; dsimp only)); at_builtin; refine Kd.R_append (Kd.int .u64) (w0 := w) w.heap.size rfl (.tmp 114) (.tmp 116) 33 22 (.int .u64 0) 8 rfl Tryd.underlying33 info22 rfl (by decide) (by omega) u15 x15_5 t668 [.int .u64 t668] (fun k_ => some k_ ≠ (.slice Ao77 t663.length co77 : Value).ownBlock) (fun _ => False) rfl rfl ?aP (fun _ hk => hk.elim) ?aF ?aO ?aB ?aS ?aL ?_; (case aP => exact rfl); (case aB => exact sU_); (case aF => exact (fun k_ hk => fresh' (R_lt (rU_ HO_13.out)) k_ hk)); (case aO => exact (rU_ HO_15.out)); (case aS => exact (below_size sU_)); (case aL => have := LMc74.out; omega); intro v676 w79 ho hb hg hat; rw [← Ny675.out] at ho; refine nx4_ (Kd.R_after (ok := (fun _ => True)) (R_mono (rU_ HO_13.out) (fun _ hk => ⟨trivial, hk⟩)) hg hat) (blk_grown (g := gb649) (o := .cells #[.int .i64 a0_0, .int .i64 a0_1, .int .u64 a0_2] 24 (0, 0)) (kU_ BK649.out) hg (Kd.R_ne HO_15.out BK649.out (by decide))) (hb) (ho) ?_; clear HO_13 BK649 HB HO_15; intro HO_13 BK649 HB HO677; clear ho hb hg hat))
            go_roundg k5
            case measure => have := HJ4.out; have := HJ24.out; have := HK3.out; have := HJ31.out; have := HK5.out; omega
            case rel => exact ⟨(y675), (wrap64 (x16_5 + 1)), gb_, H', ⟨by have := HJ4.out; have := HJ24.out; have := HK3.out; have := HJ31.out; have := HK5.out; omega⟩, ⟨R_mono (rU_ HO_13.out) (fun _ hk => hk.2)⟩, ⟨rU_ HO677.out⟩, ⟨by (with_reducible repeat (first | refine blk_drewN ?_ _ | refine blk_drew ?_ | refine blk_alloc ?_ _)); exact BK649.out⟩, ⟨sU_⟩⟩
           rw [if_neg c55] at H
           have c55b0 := decide_eq_false c55
           clear c55
           simp only [Option.some.injEq, Prod.mk.injEq] at H
           obtain ⟨rfl, rfl⟩ := H
           go_wp2
           go_ret2
           exact ⟨_, eW_, R_mono (rU_ HO_15.out) (fun _ hk => trivial), sU_⟩

def attestorref05_IsWord.j0 : Nat → List Int → Int → Bool → Int → Int → Int → Option (Bool)
 | 0, _, _, _, _, _, _ => none
 | k + 1, x1, x2, x28, x679000, x679001, x679002 => if x28 = true then (some false) else ((attestorref04_Coefficients.f k x679000 x679002 x1).bind fun bt682 => ((attestorref03_Normal.f k x679000 bt682.1).bind fun t686 => (some (decide ((t686.length : Int) ≤ x2)))))
def attestorref05_IsWord.f (k : Nat) (a0_0 : Int) (a0_1 : Int) (a0_2 : Int) (l1 : List Int) (a2 : Int) : Option (Bool) := (attestorref05_Valid.f a0_0 a0_1 a0_2).bind fun t679 => (if t679 = true then ((attestorref05_Size.f a0_0 a0_1 a0_2).bind fun t680 => (if (l1.length : Int) = t680 then (if a2 < 0 then (attestorref05_IsWord.j0 k l1 a2 true a0_0 a0_1 a0_2) else ((attestorref05_Size.f a0_0 a0_1 a0_2).bind fun t681 => (attestorref05_IsWord.j0 k l1 a2 (decide (a2 > t681)) a0_0 a0_1 a0_2))) else (attestorref05_IsWord.j0 k l1 a2 true a0_0 a0_1 a0_2))) else (attestorref05_IsWord.j0 k l1 a2 true a0_0 a0_1 a0_2))
set_option maxHeartbeats 8000000 in
set_option maxRecDepth 100000 in
theorem attestorref05_IsWord.calls (k : Nat) (a0_0 : Int) (a0_1 : Int) (a0_2 : Int) (A1 : Option Addr) (c1 : Nat) (l1 : List Int) (a2 : Int) (r : Bool) (w : World) (hr1 : Kd.C (Kd.int .u64) w A1 l1.length l1) (hc1 : l1.length ≤ c1) (h : attestorref05_IsWord.f k a0_0 a0_1 a0_2 l1 a2 = some r) :
  Calls Tryd.prog 32 #[.agg #[.int .i64 a0_0, .int .i64 a0_1, .int .u64 a0_2], .slice A1 l1.length c1, .int .i64 a2] w fun e w' => e = .returned (.bool r) ∧ Below w.heap.size w w' := by
 have hu24 := Tryd.underlying24
 have HR1 := ak hr1
 have HC1 := ak hc1
 clear hr1 hc1
 have HB := ak (Below.refl w.heap.size w)
 have H := h
 clear h
 unfold attestorref05_IsWord.f at H
 have HC4 := ak H
 clear H
 go_enter Tryd.func32, Tryd.ntmps32
 go_upto_region 1 with (first | ((with_reducible refine gate_dst (N := 3) rfl ?_); (try (refine gate_guard (by rfl) ?_; dsimp only)); refine bx_ 3 24 #[.int .i64 a0_0, .int .i64 a0_1, .int .u64 a0_2] ?_; intro gb678 hg w5 hbox hb; refine nx4_ (below_step (bU_ HB.out) hb) (hbox) ((hs_ hg (below_size (bU_ HB.out)))) ((hs_ hg (below_size (bU_ HB.out)))) ?_; clear HB; intro HB BK678 GW678 GE678; clear hb hbox hg))
 (try simp only [Act.put, s1_, s2_, s3_])
 go_cut [28] (fun v28 wc => ∃ (kq : Nat) (x28_3 : Bool), v28 = .bool x28_3 ∧ Aside0 (attestorref05_IsWord.j0 kq l1 a2 x28_3 a0_0 a0_1 a0_2 = some r) ∧ Aside0 (kq ≤ k) ∧ Aside0 (wc.heap[gb678]? = some (.cells #[.int .i64 a0_0, .int .i64 a0_1, .int .u64 a0_2] 24 (0, 0))) ∧ Aside0 (Below w.heap.size w wc))
 case first =>
  have H := HC4.out
  clear HC4
  revert H
  refine bd_ fun t679 A6 H => ?_
  by_cases c7 : t679 = true
  ·subst c7
   rw [if_pos rfl] at H
   revert H
   refine bd_ fun t680 A8 H => ?_
   by_cases c9 : (l1.length : Int) = t680
   ·rw [if_pos c9] at H
    have c9b0 := beq_iff_eq.mpr c9
    have c9b1 := bne_eq_false_iff_eq.mpr c9
    clear c9
    (first | rw [c9b0] | (simp only [i64_w, i32_w]; rw [c9b0]) | rw [c9b1] | skip)
    by_cases c10 : a2 < 0
    ·rw [if_pos c10] at H
     have c10b0 := decide_eq_true c10
     clear c10
     have H' := ak H
     clear H
     have hcz11_0 := bc0_ BK678.out
     have hcz11_1 := bc1_ BK678.out
     have hcz11_2 := bc2_ BK678.out
     have hfz11_0 := blk_frozen BK678.out 0
     have hfz11_1 := blk_frozen BK678.out 1
     have hfz11_2 := blk_frozen BK678.out 2
     go_wp2_with (first | ((with_reducible refine gate_callee (f := 12) rfl ?_); refine gl_ (some 10) Tryd.func12 #[.agg #[.int .i64 a0_0, .int .i64 a0_1, .int .u64 a0_2]] ?_; (with_reducible refine (attestorref05_Valid.calls a0_0 a0_1 a0_2 true _ A6.out).mono ?_); rintro e w12 ⟨rfl, hb⟩; refine ⟨_, rfl, ?_⟩; refine nx2_ (blk_below (kU_ BK678.out) hb) (below_step sU_ hb) ?_; clear BK678 HB; intro BK678 HB; clear hb; have hcz13_0 := bc0_ BK678.out; have hcz13_1 := bc1_ BK678.out; have hcz13_2 := bc2_ BK678.out; have hfz13_0 := blk_frozen BK678.out 0; have hfz13_1 := blk_frozen BK678.out 1; have hfz13_2 := blk_frozen BK678.out 2) | (go_at_call 14; (with_reducible refine (attestorref05_Size.calls a0_0 a0_1 a0_2 t680 _ A8.out).mono ?_); rintro e w14 ⟨rfl, hb⟩; refine nx2_ (blk_below (kU_ BK678.out) hb) (below_step sU_ hb) ?_; clear BK678 HB; intro BK678 HB; clear hb))
     go_meet
     case rel => exact ⟨_, (true), gb_, H', ⟨by first | omega | exact Nat.le_refl _⟩, ⟨by (with_reducible repeat (first | refine blk_drewN ?_ _ | refine blk_drew ?_ | refine blk_alloc ?_ _)); exact BK678.out⟩, ⟨sU_⟩⟩
    rw [if_neg c10] at H
    have c10b0 := decide_eq_false c10
    clear c10
    revert H
    refine bd_ fun t681 A15 H => ?_
    have H' := ak H
    clear H
    have hcz16_0 := bc0_ BK678.out
    have hcz16_1 := bc1_ BK678.out
    have hcz16_2 := bc2_ BK678.out
    have hfz16_0 := blk_frozen BK678.out 0
    have hfz16_1 := blk_frozen BK678.out 1
    have hfz16_2 := blk_frozen BK678.out 2
    go_wp2_with (first | ((with_reducible refine gate_callee (f := 12) rfl ?_); refine gl_ (some 10) Tryd.func12 #[.agg #[.int .i64 a0_0, .int .i64 a0_1, .int .u64 a0_2]] ?_; (with_reducible refine (attestorref05_Valid.calls a0_0 a0_1 a0_2 true _ A6.out).mono ?_); rintro e w17 ⟨rfl, hb⟩; refine ⟨_, rfl, ?_⟩; refine nx2_ (blk_below (kU_ BK678.out) hb) (below_step sU_ hb) ?_; clear BK678 HB; intro BK678 HB; clear hb; have hcz18_0 := bc0_ BK678.out; have hcz18_1 := bc1_ BK678.out; have hcz18_2 := bc2_ BK678.out; have hfz18_0 := blk_frozen BK678.out 0; have hfz18_1 := blk_frozen BK678.out 1; have hfz18_2 := blk_frozen BK678.out 2) | (go_at_call 14; (with_reducible refine (attestorref05_Size.calls a0_0 a0_1 a0_2 t680 _ A8.out).mono ?_); rintro e w19 ⟨rfl, hb⟩; refine nx2_ (blk_below (kU_ BK678.out) hb) (below_step sU_ hb) ?_; clear BK678 HB; intro BK678 HB; clear hb; have hcz20_0 := bc0_ BK678.out; have hcz20_1 := bc1_ BK678.out; have hcz20_2 := bc2_ BK678.out; have hfz20_0 := blk_frozen BK678.out 0; have hfz20_1 := blk_frozen BK678.out 1; have hfz20_2 := blk_frozen BK678.out 2) | (go_at_call 14; (with_reducible refine (attestorref05_Size.calls a0_0 a0_1 a0_2 t681 _ A15.out).mono ?_); rintro e w21 ⟨rfl, hb⟩; refine nx2_ (blk_below (kU_ BK678.out) hb) (below_step sU_ hb) ?_; clear BK678 HB; intro BK678 HB; clear hb))
    go_meet
    case rel => exact ⟨_, (decide (a2 > t681)), (by rw [show t680 = t681 from Option.some.inj (A8.out.symm.trans A15.out)]), H', ⟨by first | omega | exact Nat.le_refl _⟩, ⟨by (with_reducible repeat (first | refine blk_drewN ?_ _ | refine blk_drew ?_ | refine blk_alloc ?_ _)); exact BK678.out⟩, ⟨sU_⟩⟩   -- same call
   rw [if_neg c9] at H
   have c9b0 := beq_eq_false_iff_ne.mpr c9
   have c9b1 := bne_iff_ne.mpr c9
   (first | rw [c9b0] | (simp only [i64_w, i32_w]; rw [c9b0]) | rw [c9b1] | skip)
   have H' := ak H
   clear H
   have hcz22_0 := bc0_ BK678.out
   have hcz22_1 := bc1_ BK678.out
   have hcz22_2 := bc2_ BK678.out
   have hfz22_0 := blk_frozen BK678.out 0
   have hfz22_1 := blk_frozen BK678.out 1
   have hfz22_2 := blk_frozen BK678.out 2
   go_wp2_with (first | ((with_reducible refine gate_callee (f := 12) rfl ?_); refine gl_ (some 10) Tryd.func12 #[.agg #[.int .i64 a0_0, .int .i64 a0_1, .int .u64 a0_2]] ?_; (with_reducible refine (attestorref05_Valid.calls a0_0 a0_1 a0_2 true _ A6.out).mono ?_); rintro e w23 ⟨rfl, hb⟩; refine ⟨_, rfl, ?_⟩; refine nx2_ (blk_below (kU_ BK678.out) hb) (below_step sU_ hb) ?_; clear BK678 HB; intro BK678 HB; clear hb; have hcz24_0 := bc0_ BK678.out; have hcz24_1 := bc1_ BK678.out; have hcz24_2 := bc2_ BK678.out; have hfz24_0 := blk_frozen BK678.out 0; have hfz24_1 := blk_frozen BK678.out 1; have hfz24_2 := blk_frozen BK678.out 2) | (go_at_call 14; (with_reducible refine (attestorref05_Size.calls a0_0 a0_1 a0_2 t680 _ A8.out).mono ?_); rintro e w25 ⟨rfl, hb⟩; refine nx2_ (blk_below (kU_ BK678.out) hb) (below_step sU_ hb) ?_; clear BK678 HB; intro BK678 HB; clear hb))
   go_meet
   case rel => exact ⟨_, (true), gb_, H', ⟨by first | omega | exact Nat.le_refl _⟩, ⟨by (with_reducible repeat (first | refine blk_drewN ?_ _ | refine blk_drew ?_ | refine blk_alloc ?_ _)); exact BK678.out⟩, ⟨sU_⟩⟩
  replace c7 := Bool.eq_false_iff.mpr c7
  subst c7
  rw [if_neg (show ¬ (false = true) by decide)] at H
  have H' := ak H
  clear H
  have hcz26_0 := bc0_ BK678.out
  have hcz26_1 := bc1_ BK678.out
  have hcz26_2 := bc2_ BK678.out
  have hfz26_0 := blk_frozen BK678.out 0
  have hfz26_1 := blk_frozen BK678.out 1
  have hfz26_2 := blk_frozen BK678.out 2
  go_wp2_with (first | ((with_reducible refine gate_callee (f := 12) rfl ?_); refine gl_ (some 10) Tryd.func12 #[.agg #[.int .i64 a0_0, .int .i64 a0_1, .int .u64 a0_2]] ?_; (with_reducible refine (attestorref05_Valid.calls a0_0 a0_1 a0_2 false _ A6.out).mono ?_); rintro e w27 ⟨rfl, hb⟩; refine ⟨_, rfl, ?_⟩; refine nx2_ (blk_below (kU_ BK678.out) hb) (below_step sU_ hb) ?_; clear BK678 HB; intro BK678 HB; clear hb))
  go_meet
  case rel => exact ⟨_, (true), gb_, H', ⟨by first | omega | exact Nat.le_refl _⟩, ⟨by (with_reducible repeat (first | refine blk_drewN ?_ _ | refine blk_drew ?_ | refine blk_alloc ?_ _)); exact BK678.out⟩, ⟨sU_⟩⟩
 case rest =>
  clear HC4
  (try clear c1); (try clear p2); (try clear c3); (try clear c7); (try clear c9); (try clear c9b0); (try clear c9b1); (try clear c10); (try clear c10b0); (try clear c12); (try clear hcz11_0); (try clear hcz11_1); (try clear hcz11_2); (try clear hcz13_0); (try clear hcz13_1); (try clear hcz13_2); (try clear hcz16_0); (try clear hcz16_1); (try clear hcz16_2); (try clear hcz18_0); (try clear hcz18_1); (try clear hcz18_2); (try clear hcz20_0); (try clear hcz20_1); (try clear hcz20_2); (try clear hcz22_0); (try clear hcz22_1); (try clear hcz22_2); (try clear hcz24_0); (try clear hcz24_1); (try clear hcz24_2); (try clear hcz26_0); (try clear hcz26_1); (try clear hcz26_2); (try clear hfz11_0); (try clear hfz11_1); (try clear hfz11_2); (try clear hfz13_0); (try clear hfz13_1); (try clear hfz13_2); (try clear hfz16_0); (try clear hfz16_1); (try clear hfz16_2); (try clear hfz18_0); (try clear hfz18_1); (try clear hfz18_2); (try clear hfz20_0); (try clear hfz20_1); (try clear hfz20_2); (try clear hfz22_0); (try clear hfz22_1); (try clear hfz22_2); (try clear hfz24_0); (try clear hfz24_1); (try clear hfz24_2); (try clear hfz26_0); (try clear hfz26_1); (try clear hfz26_2)
  obtain ⟨kq, x28_3, rfl, HA, HJ3, BK678, HB⟩ := hcut
  cases kq with
  | zero => exact absurd HA.out (by simp [attestorref05_IsWord.j0])
  | succ kj3 =>
   have H := HA.out
   clear HA
   simp only [attestorref05_IsWord.j0] at H
   by_cases c28 : x28_3 = true
   ·subst c28
    rw [if_pos rfl] at H
    obtain rfl := Option.some.inj H
    go_wp2
    go_ret
    exact ⟨eW_, sU_⟩
   replace c28 := Bool.eq_false_iff.mpr c28
   subst c28
   rw [if_neg (show ¬ (false = true) by decide)] at H
   revert H
   refine bd2_ fun t682 t683 A29 H => ?_
   try dsimp only at H
   revert H
   refine bd_ fun t686 A30 H => ?_
   obtain rfl := Option.some.inj H
   have hcz31_0 := bc0_ BK678.out
   have hcz31_1 := bc1_ BK678.out
   have hcz31_2 := bc2_ BK678.out
   have hfz31_0 := blk_frozen BK678.out 0
   have hfz31_1 := blk_frozen BK678.out 1
   have hfz31_2 := blk_frozen BK678.out 2
   go_wp2_with (first | ((with_reducible refine gate_callee (f := 70) rfl ?_); refine gl_ (some 35) Tryd.func70 #[.int .i64 a0_0, .int .u64 a0_2, .slice A1 l1.length c1] ?_; (with_reducible refine (attestorref04_Coefficients.calls kj3 a0_0 a0_2 _ _ l1 t682 t683 _ ?side1 ?side2 A29.out).mono ?_); (case side1 => exact cU_ (C_below HR1.out HB.out)); (case side2 => exact HC1.out); rintro e w32 ⟨v684, rfl, ho0, hb⟩; refine ⟨_, rfl, ?_⟩; refine nx3_ (R_lower ho0 (below_size sU_)) (blk_below (kU_ BK678.out) hb) (below_step sU_ hb) ?_; clear BK678 HB; intro HO685 BK678 HB; clear hb ho0; have hcz33_0 := bc0_ BK678.out; have hcz33_1 := bc1_ BK678.out; have hcz33_2 := bc2_ BK678.out; have hfz33_0 := blk_frozen BK678.out 0; have hfz33_1 := blk_frozen BK678.out 1; have hfz33_2 := blk_frozen BK678.out 2; obtain ⟨Ao34, co34, eo34⟩ := R_slice HO685.out; subst eo34) | ((with_reducible refine gate_callee (f := 71) rfl ?_); refine gl_ (some 41) Tryd.func71 #[.int .i64 a0_0, .slice Ao34 t682.length co34] ?_; (with_reducible refine (attestorref03_Normal.calls kj3 a0_0 _ _ t682 t686 _ ?side1 ?side2 A30.out).mono ?_); (case side1 => exact cU_ ((R_reads' HO685.out).2.2)); (case side2 => exact (R_reads' HO685.out).2.1); rintro e w35 ⟨v687, rfl, ho0, hb⟩; refine ⟨_, rfl, ?_⟩; refine nx4_ (R_elder' (rU_ HO685.out) (R_base ho0) hb) (R_lower (R_new' ho0 (R_lt (rU_ HO685.out))) (below_size sU_)) (blk_below (kU_ BK678.out) hb) (below_step sU_ hb) ?_; clear HO685 BK678 HB; intro HO685 HO688 BK678 HB; clear hb ho0; obtain ⟨Ao36, co36, eo36⟩ := R_slice HO688.out; subst eo36))
   go_ret
   exact ⟨eW_, sU_⟩

def attestorlaw05_CodeWords.f (k : Nat) (a0_0 : Int) (a0_1 : Int) (a0_2 : Int) (l1 : List Int) (l2 : List Bool) (a3 : Int) : Option (Bool) := (attestorlaw05_small.f a0_0 a0_1 a0_2 5).bind fun bt690 => ((attestorlaw05_own.f l1 40).bind fun t693 => ((attestorlaw05_own.f t693 40).bind fun t696 => (if 0 ≤ (mn (l2.length : Int) 40) then (if (mn (l2.length : Int) 40) ≤ (l2.length : Int) then (if ([] : List Bool).length + (l2.take ((mn (l2.length : Int) 40) : Int).toNat).length < 140737488355328 then ((some (([] : List Bool) ++ (l2.take ((mn (l2.length : Int) 40) : Int).toNat) : List Bool)).bind fun y700 => ((code_Fill.f k bt690.1 bt690.2.1 bt690.2.2 t693 y700 a3).bind fun bt703 => ((attestorref05_Fill.f k bt690.1 bt690.2.1 bt690.2.2 t696 y700 a3).bind fun bt707 => ((code_IsWord.f k bt690.1 bt690.2.1 bt690.2.2 t693 a3).bind fun t711 => ((attestorref05_IsWord.f k bt690.1 bt690.2.1 bt690.2.2 t696 a3).bind fun t712 => (if (t711 == t712) = true then (if bt703.2 = bt707.2 then ((attestorref01_Same.f k bt703.1 bt707.1).bind fun t713 => (if t713 = true then ((attestorref01_Same.f k t693 t696).bind fun t714 => (if t714 = true then ((attestorlaw05_works.f k).bind fun t715 => (some t715)) else (none))) else (none))) else (none)) else (none))))))) else (none)) else (none)) else (none))))
def attestorlaw05_CodeWords.T7 : Bool × List (List Nat × List Nat) := (true, [([], []), ([], []), ([], []), ([0, 1, 2], [0, 1, 2]), ([], []), ([], []), ([], []), ([4, 5, 6, 3], [4, 5, 6]), ([3, 7], [3, 7]), ([8, 7], [8]), ([9], [9]), ([9], [9]), ([10, 11, 9], [9, 10, 11]), ([9, 12], [9, 12]), ([13, 9], [13]), ([14], [14]), ([14], [14]), ([15, 16, 14, 14], [14, 15, 16]), ([14, 17], [14, 17]), ([18, 17], [18]), ([19], [19]), ([19], [19]), ([20, 21, 19, 19], [19, 20, 21]), ([19, 22], [19, 22]), ([23, 22], [23]), ([24, 24], [24]), ([24, 25], [24, 25]), ([26, 25, 0, 1, 2, 3, 4, 5, 6, 7, 8, 9, 10, 11, 12, 13, 14, 15, 16, 17, 18, 19, 20, 21, 22, 23, 24, 25, 26], [26])])
def attestorlaw05_CodeWords.B7 : List Nat := [0, 0, 0, 7, 0, 0, 0, 127, 255, 511, 1023, 1023, 4095, 8191, 16383, 32767, 32767, 131071, 262143, 524287, 1048575, 1048575, 4194303, 8388607, 16777215, 33554431, 67108863, 134217727]
theorem attestorlaw05_CodeWords.tab7 : rtab .any (opsOf Tryd.f5 7) = attestorlaw05_CodeWords.T7 := by kernel_rfl
theorem attestorlaw05_CodeWords.bits7 : waitsOk attestorlaw05_CodeWords.T7.2 attestorlaw05_CodeWords.B7 = true := by kernel_rfl
set_option maxHeartbeats 8000000 in
set_option maxRecDepth 100000 in
theorem attestorlaw05_CodeWords.calls (k : Nat) (a0_0 : Int) (a0_1 : Int) (a0_2 : Int) (A1 : Option Addr) (c1 : Nat) (l1 : List Int) (A2 : Option Addr) (c2 : Nat) (l2 : List Bool) (a3 : Int) (r : Bool) (w : World) (hG : Fld w) (hr1 : Kd.C (Kd.int .u64) w A1 l1.length l1) (hc1 : l1.length ≤ c1) (hr2 : Kd.C Kd.bool w A2 l2.length l2) (hc2 : l2.length ≤ c2) (h : attestorlaw05_CodeWords.f k a0_0 a0_1 a0_2 l1 l2 a3 = some r) :
  Calls Tryd.prog 5 #[.agg #[.int .i64 a0_0, .int .i64 a0_1, .int .u64 a0_2], .slice A1 l1.length c1, .slice A2 l2.length c2, .int .i64 a3] w fun e w' => e = .returned (.bool r) ∧ Below w.heap.size w w' := by
 have hu24 := Tryd.underlying24
 have HG := ak hG
 clear hG
 have HR1 := ak hr1
 have HC1 := ak hc1
 clear hr1 hc1
 have HR2 := ak hr2
 have HC2 := ak hc2
 clear hr2 hc2
 have HB := ak (Below.refl w.heap.size w)
 have H := h
 clear h
 unfold attestorlaw05_CodeWords.f at H
 revert H
 refine bd3_ fun t690 t691 t692 A5 H => ?_
 try dsimp only at H
 revert H
 refine bd_ fun t693 A6 H => ?_
 revert H
 refine bd_ fun t696 A7 H => ?_
 obtain ⟨ji8, hji8⟩ : ∃ j_ : Int, (mn (l2.length : Int) 40) = j_ := ⟨_, rfl⟩
 first | rw [hji8] at H | simp only [hji8] at H
 (try rw [hji8] at A5)
 (try rw [hji8] at A6)
 (try rw [hji8] at A7)
 (try (have hji8h : ji8 ≤ 40 := by (rw [← hji8]; unfold mn; (repeat' split) <;> omega)))
 (try (have hji8g : ji8 ≤ 64 := by omega))
 (try (have hji8l : 0 ≤ ji8 := by (rw [← hji8]; unfold mn; (repeat' split) <;> omega)))
 (try (have hji8m : 0 ≤ ji8 := by omega))
 have hji8_ : (if 40 < (l2.length : Int) then 40 else (l2.length : Int)) = ji8 := hji8
 obtain ⟨c9, H⟩ : (0 ≤ (ji8)) ∧ _ := it_ H
 have c9b0 := eq_true c9
 have c9b1 := decide_eq_true c9
 clear c9
 obtain ⟨c10, H⟩ : ((ji8) ≤ (l2.length : Int)) ∧ _ := it_ H
 have c10b0 := eq_true c10
 have c10b1 := decide_eq_true c10
 clear c10
 obtain ⟨c11, H⟩ : (([] : List Bool).length + (l2.take ((ji8) : Int).toNat).length < 140737488355328) ∧ _ := it_ H
 have LMc11 := ak c11
 clear c11
 obtain ⟨y700, hy700⟩ : ∃ y_ : List Bool, y_ = (([] : List Bool) ++ (l2.take ((ji8) : Int).toNat)) := ⟨_, rfl⟩
 replace H : ((code_Fill.f k t690 t691 t692 t693 y700 a3).bind fun bt703 => ((attestorref05_Fill.f k t690 t691 t692 t696 y700 a3).bind fun bt707 => ((code_IsWord.f k t690 t691 t692 t693 a3).bind fun t711 => ((attestorref05_IsWord.f k t690 t691 t692 t696 a3).bind fun t712 => (if (t711 == t712) = true then (if bt703.2 = bt707.2 then ((attestorref01_Same.f k bt703.1 bt707.1).bind fun t713 => (if t713 = true then ((attestorref01_Same.f k t693 t696).bind fun t714 => (if t714 = true then ((attestorlaw05_works.f k).bind fun t715 => (some t715)) else (none))) else (none))) else (none)) else (none)))))) = some r := by first | (rw [hy700]; with_reducible exact H) | (have H2_ := (Option.bind_some _ _).symm.trans H; rw [hy700]; with_reducible exact H2_) | (have H2_ := (Option.bind_some _ _).symm.trans H; with_reducible exact H2_) | with_reducible exact H | (rw [hy700]; exact H) | exact H
 have Ny700 := ak hy700
 clear hy700
 revert H
 refine bd2_ fun t703 t706 A12 H => ?_
 try dsimp only at H
 revert H
 refine bd2_ fun t707 t710 A13 H => ?_
 try dsimp only at H
 revert H
 refine bd_ fun t711 A14 H => ?_
 revert H
 refine bd_ fun t712 A15 H => ?_
 obtain ⟨c16, H⟩ : ((t711 == t712) = true) ∧ _ := it_ H
 have c16b0 : (t711 == t712) = true := c16
 (try (have c16b1 : decide (t711 = t712) = true := by simpa using c16))
 (try (have c16b2 : (t711 == t712) = true := by simpa using c16))
 clear c16
 obtain ⟨c17, H⟩ : (t706 = t710) ∧ _ := it_ H
 have c17b0 := beq_iff_eq.mpr c17
 have c17b1 := bne_eq_false_iff_eq.mpr c17
 clear c17
 revert H
 refine bd_ fun t713 A18 H => ?_
 by_cases c19 : t713 = true
 ·subst c19
  rw [if_pos rfl] at H
  revert H
  refine bd_ fun t714 A20 H => ?_
  by_cases c21 : t714 = true
  ·subst c21
   rw [if_pos rfl] at H
   revert H
   refine bd_ fun t715 A22 H => ?_
   obtain rfl := Option.some.inj H
   go_enter Tryd.func5, Tryd.ntmps5
   try go_wp2_with (first | ((with_reducible refine gate_dst (N := 4) rfl ?_); refine bx_ 4 24 #[.int .i64 a0_0, .int .i64 a0_1, .int .u64 a0_2] ?_; intro gb689 hg w23 hbox hb; refine nx4_ (below_step (bU_ HB.out) hb) (hbox) ((hs_ hg (below_size (bU_ HB.out)))) ((hs_ hg (below_size (bU_ HB.out)))) ?_; clear HB; intro HB BK689 GW689 GE689; clear hb hbox hg; have hcz24_0 := bc0_ BK689.out; have hcz24_1 := bc1_ BK689.out; have hcz24_2 := bc2_ BK689.out; have hfz24_0 := blk_frozen BK689.out 0; have hfz24_1 := blk_frozen BK689.out 1; have hfz24_2 := blk_frozen BK689.out 2) | ((with_reducible refine gate_callee (f := 19) rfl ?_); refine gl_ (some 16) Tryd.func19 #[.agg #[.int .i64 a0_0, .int .i64 a0_1, .int .u64 a0_2], .int .i64 5] ?_; (with_reducible refine (attestorlaw05_small.calls a0_0 a0_1 a0_2 5 t690 t691 t692 _ A5.out).mono ?_); rintro e w25 ⟨rfl, hb⟩; refine ⟨_, rfl, ?_⟩; refine nx2_ (blk_below (kU_ BK689.out) hb) (below_step sU_ hb) ?_; clear BK689 HB; intro BK689 HB; clear hb) | ((with_reducible refine gate_callee (f := 28) rfl ?_); refine gl_ (some 18) Tryd.func28 #[.slice A1 l1.length c1, .int .i64 40] ?_; (with_reducible refine (attestorlaw05_own.calls _ _ l1 40 t693 _ ?side1 ?side2 A6.out).mono ?_); (case side1 => exact cU_ (C_below HR1.out HB.out)); (case side2 => exact HC1.out); rintro e w26 ⟨v694, rfl, ho0, hb⟩; refine ⟨_, rfl, ?_⟩; refine nx3_ (R_lower ho0 (below_size sU_)) (blk_below (kU_ BK689.out) hb) (below_step sU_ hb) ?_; clear BK689 HB; intro HO695 BK689 HB; clear hb ho0; have hcz27_0 := bc0_ BK689.out; have hcz27_1 := bc1_ BK689.out; have hcz27_2 := bc2_ BK689.out; have hfz27_0 := blk_frozen BK689.out 0; have hfz27_1 := blk_frozen BK689.out 1; have hfz27_2 := blk_frozen BK689.out 2; obtain ⟨Ao28, co28, eo28⟩ := R_slice HO695.out; subst eo28) | ((with_reducible refine gate_callee (f := 28) rfl ?_); refine gl_ (some 20) Tryd.func28 #[.slice Ao28 t693.length co28, .int .i64 40] ?_; (with_reducible refine (attestorlaw05_own.calls _ _ t693 40 t696 _ ?side1 ?side2 A7.out).mono ?_); (case side1 => refine (R_reads' (e := 22) (base := w.heap.size) (ok := fun k_ => True) (n := t693.length) (c := co28) ?_).2.2; exact (by (with_reducible repeat (first | apply Kd.R_alloc | apply Kd.R_drewN | apply R_drew)); exact (R_mono (R_far (p := ⟨gb689, 2, none⟩) (R_far (p := ⟨gb689, 1, none⟩) (R_far (p := ⟨gb689, 0, none⟩) (R_types HO695.out BK689.out (by decide)) (fun _ hk => hk.2) (.int .i64 t690)) (fun _ hk => hk.2) (.int .i64 t691)) (fun _ hk => hk.2) (.int .u64 t692)) (fun _ h_ => h_.1)))); (case side2 => exact (R_reads' HO695.out).2.1); rintro e w29 ⟨v697, rfl, ho0, hb⟩; refine ⟨_, rfl, ?_⟩; refine nx4_ (R_elder' (by (with_reducible repeat (first | apply Kd.R_alloc | apply Kd.R_drewN | apply R_drew)); exact (R_mono (R_far (p := ⟨gb689, 2, none⟩) (R_far (p := ⟨gb689, 1, none⟩) (R_far (p := ⟨gb689, 0, none⟩) (R_types HO695.out BK689.out (by decide)) (fun _ hk => hk.2) (.int .i64 t690)) (fun _ hk => hk.2) (.int .i64 t691)) (fun _ hk => hk.2) (.int .u64 t692)) (fun _ h_ => h_.1))) (R_base ho0) hb) (R_lower (R_new' ho0 (R_lt (by (with_reducible repeat (first | apply Kd.R_alloc | apply Kd.R_drewN | apply R_drew)); exact (R_mono (R_far (p := ⟨gb689, 2, none⟩) (R_far (p := ⟨gb689, 1, none⟩) (R_far (p := ⟨gb689, 0, none⟩) (R_types HO695.out BK689.out (by decide)) (fun _ hk => hk.2) (.int .i64 t690)) (fun _ hk => hk.2) (.int .i64 t691)) (fun _ hk => hk.2) (.int .u64 t692)) (fun _ h_ => h_.1))))) (below_size sU_)) (blk_below (g := gb689) (o := .cells #[.int .i64 t690, .int .i64 t691, .int .u64 t692] 24 (0, 0)) kp_ hb) (below_step sU_ hb) ?_; clear HO695 BK689 HB; intro HO695 HO698 BK689 HB; clear hb ho0; obtain ⟨i030, hi030, _, hsz30, _⟩ := info_parts info4; obtain ⟨hcut30, hA30, hC30⟩ := print_take_of (P := Tryd.prog) Value.bool false 43 4 .i64 Tryd.underlying43 hi030 hsz30 A2 c2 l2 (ji8) od_ od_ HC2.out; have HR699 := ak (C_of_reads (h1 := fun _ => rfl) (hA30 _ (Kd.reads_of_C HR2.out))); have HC699 := ak hC30; clear hA30 hC30 hi030 hsz30) | ((with_reducible refine gate_builtin (b := .append) (xs := #[.tmp 21, .tmp 26]) rfl ?_); at_builtin; refine Kd.R_append_rows Kd.bool (w0 := w) w.heap.size rfl (.tmp 21) (.tmp 26) 43 4 (.bool false) 1 rfl Tryd.underlying43 info4 rfl (by decide) (by omega) (.slice none 0 0) ([] : List Bool) (l2.take ((ji8) : Int).toNat) _ _ _ (fun _ => True) (fun _ => False) rfl rfl ?aO ?aR (fun _ _ h => h) (fun _ h => h.elim) ?aF ?aB ?aS ?aL ?_; (case aR => first | (refine lenEq_ (show (l2.take ((ji8) : Int).toNat).length = (ji8).toNat from (by rw [List.length_take]; have h_ : ((ji8) : Int) ≤ (l2.length : Int) := od_; omega)) ?_; exact cU_ (C_below HR699.out HB.out)) | (exact cU_ (C_below HR699.out HB.out))); (case aB => exact sU_); (case aF => exact (fun _ _ => trivial)); (case aO => exact ((Kd.R_nil _ _ _ _ (fun _ => True)))); (case aS => exact (below_size sU_)); (case aL => have := LMc11.out; have hlx_ := (show (l2.take ((ji8) : Int).toNat).length = (ji8).toNat from (by rw [List.length_take]; have h_ : ((ji8) : Int) ≤ (l2.length : Int) := od_; omega)); omega); intro v701 w31 ho hb hg hat; rw [← Ny700.out] at ho; refine nx5_ (blk_grown (g := gb689) (o := .cells #[.int .i64 t690, .int .i64 t691, .int .u64 t692] 24 (0, 0)) (kU_ BK689.out) hg (by simp [Value.ownBlock])) (Kd.R_grown (rU_ HO695.out) hg (fun _ _ => by simp [Value.ownBlock])) (Kd.R_grown (rU_ HO698.out) hg (fun _ _ => by simp [Value.ownBlock])) (hb) (ho) ?_; clear BK689 HO695 HO698 HB; intro BK689 HO695 HO698 HB HO702; clear ho hb hg hat; have hcz32_0 := bc0_ BK689.out; have hcz32_1 := bc1_ BK689.out; have hcz32_2 := bc2_ BK689.out; have hfz32_0 := blk_frozen BK689.out 0; have hfz32_1 := blk_frozen BK689.out 1; have hfz32_2 := blk_frozen BK689.out 2; obtain ⟨Ao33, co33, eo33⟩ := R_slice HO702.out; subst eo33) | ((with_reducible refine gate_callee (f := 29) rfl ?_); refine gl_ (some 33) Tryd.func29 #[.agg #[.int .i64 t690, .int .i64 t691, .int .u64 t692], .slice Ao28 t693.length co28, .slice Ao33 y700.length co33, .int .i64 a3] ?_; (with_reducible refine (code_Fill.calls k t690 t691 t692 _ _ t693 _ _ y700 a3 t703 t706 _ ?side1 ?side2 ?side3 ?side4 ?side5 A12.out).mono ?_); (case side1 => repeat (first | with_reducible exact HG.out | with_reducible exact (Fld.below HG.out HB.out) | exact (Fld.below HG.out sU_) | (with_reducible refine Fld.alloc ?_ _) | (with_reducible refine Fld.drewN ?_ _) | (with_reducible refine Fld.drew ?_))); (case side2 => exact cU_ ((R_reads' HO695.out).2.2)); (case side3 => exact (R_reads' HO695.out).2.1); (case side4 => exact cU_ ((R_reads' HO702.out).2.2)); (case side5 => exact (R_reads' HO702.out).2.1); rintro e w34 ⟨v704, rfl, ho0, hb⟩; refine ⟨_, rfl, ?_⟩; refine nx6_ (R_elder' (rU_ HO695.out) (R_base ho0) hb) (R_elder' (rU_ HO698.out) (R_base ho0) hb) (R_below (rU_ HO702.out) hb) (R_lower (R_new' (R_new' ho0 (R_lt (rU_ HO695.out))) (R_lt (rU_ HO698.out))) (below_size sU_)) (blk_below (kU_ BK689.out) hb) (below_step sU_ hb) ?_; clear HO695 HO698 HO702 BK689 HB; intro HO695 HO698 HO702 HO705 BK689 HB; clear hb ho0; have hcz35_0 := bc0_ BK689.out; have hcz35_1 := bc1_ BK689.out; have hcz35_2 := bc2_ BK689.out; have hfz35_0 := blk_frozen BK689.out 0; have hfz35_1 := blk_frozen BK689.out 1; have hfz35_2 := blk_frozen BK689.out 2; obtain ⟨Ao36, co36, eo36⟩ := R_slice HO698.out; subst eo36) | ((with_reducible refine gate_callee (f := 30) rfl ?_); refine gl_ (some 41) Tryd.func30 #[.agg #[.int .i64 t690, .int .i64 t691, .int .u64 t692], .slice Ao36 t696.length co36, .slice Ao33 y700.length co33, .int .i64 a3] ?_; (with_reducible refine (attestorref05_Fill.calls k t690 t691 t692 _ _ t696 _ _ y700 a3 t707 t710 _ ?side1 ?side2 ?side3 ?side4 A13.out).mono ?_); (case side1 => exact cU_ ((R_reads' HO698.out).2.2)); (case side2 => exact (R_reads' HO698.out).2.1); (case side3 => exact cU_ ((R_reads' HO702.out).2.2)); (case side4 => exact (R_reads' HO702.out).2.1); rintro e w37 ⟨v708, rfl, ho0, hb⟩; refine ⟨_, rfl, ?_⟩; refine nx7_ (R_elder' (rU_ HO695.out) (R_base ho0) hb) (R_elder' (rU_ HO698.out) (R_base ho0) hb) (R_below (rU_ HO702.out) hb) (R_elder' (rU_ HO705.out) (R_base ho0) hb) (R_lower (R_new' (R_new' (R_new' ho0 (R_lt (rU_ HO695.out))) (R_lt (rU_ HO698.out))) (R_lt (rU_ HO705.out))) (below_size sU_)) (blk_below (kU_ BK689.out) hb) (below_step sU_ hb) ?_; clear HO695 HO698 HO702 HO705 BK689 HB; intro HO695 HO698 HO702 HO705 HO709 BK689 HB; clear hb ho0))
   refine nx7_ (R_drew HO695.out) (R_drew HO698.out) (R_drew HO702.out) (R_drew HO705.out) (R_drew HO709.out) (blk_drew BK689.out) (below_drew1 HB.out) ?_
   clear HO695 HO698 HO702 HO705 HO709 BK689 HB
   intro HO695 HO698 HO702 HO705 HO709 BK689 HB
   refine start_ (n := 28) (S := fun w' => w'.cell? ⟨gb689, 0, none⟩ = some (.int .i64 t690) ∧ w'.cell? ⟨gb689, 1, none⟩ = some (.int .i64 t691) ∧ w'.cell? ⟨gb689, 2, none⟩ = some (.int .u64 t692)) (ds := []) (bv 28 0) (by kernel_rfl) rfl rfl ⟨bc0_ BK689.out, bc1_ BK689.out, bc2_ BK689.out⟩ (fun hHeld => ?_); refine with_tabW attestorlaw05_CodeWords.tab7 attestorlaw05_CodeWords.bits7 (fun HT_ HW_ => ?_)
   generalize w37.drew = w38 at HO695 HO698 HO702 HO705 HO709 BK689 HB hHeld ⊢
   refine pq_ 1 45 28 2 HT_.out ?_
   refine pq_ 2 46 28 6 HT_.out ?_
   refine pq_ 5 49 28 38 HT_.out ?_
   refine pq_ 6 50 28 102 HT_.out ?_
   refine tq_ 0 44 28 103 HT_.out HW_.out hHeld ?_
   refine tq_ 4 48 28 119 HT_.out HW_.out hHeld ?_
   refine oq_ 3 47 28 127 HT_.out fun K hK => ?_
   refine gs_ Tryd.func31 #[.agg #[.int .i64 t690, .int .i64 t691, .int .u64 t692], .slice Ao28 t693.length co28, .int .i64 a3] ?_
   with_reducible refine (code_IsWord.calls k t690 t691 t692 _ _ t693 a3 t711 _ ?side1 ?side2 ?side3 A14.out).mono ?_
   (case side1 => repeat (first | with_reducible exact HG.out | with_reducible exact (Fld.below HG.out HB.out) | exact (Fld.below HG.out sU_) | (with_reducible refine Fld.alloc ?_ _) | (with_reducible refine Fld.drewN ?_ _) | (with_reducible refine Fld.drew ?_)))
   (case side2 => exact cU_ ((R_reads' HO695.out).2.2))
   (case side3 => exact (R_reads' HO695.out).2.1)
   rintro e w39 ⟨rfl, hb⟩
   refine ⟨_, rfl, ?_⟩
   refine nx7_ (R_below (rU_ HO695.out) hb) (R_below (rU_ HO698.out) hb) (R_below (rU_ HO702.out) hb) (R_below (rU_ HO705.out) hb) (R_below (rU_ HO709.out) hb) (blk_below (kU_ BK689.out) hb) (below_step sU_ hb) ?_
   clear HO695 HO698 HO702 HO705 HO709 BK689 HB
   intro HO695 HO698 HO702 HO705 HO709 BK689 HB
   (try clear hb)
   (try clear hb2)
   (try clear hk)
   (try clear hi)
   refine hK.out _ _ ⟨bc0_ BK689.out, bc1_ BK689.out, bc2_ BK689.out⟩ (fun hHeld => ?_)
   clear hK K
   refine norm_ (a' := ?_) ?_ ?_
   rotate_left
   ·show Act.put _ (some 47) _ = _
    simp only [Act.put, s1_, s2_, s3_, i64_w, i32_w]
    rfl
   refine oq_ 7 51 28 255 HT_.out fun K hK => ?_
   refine gs_ Tryd.func32 #[.agg #[.int .i64 t690, .int .i64 t691, .int .u64 t692], .slice Ao36 t696.length co36, .int .i64 a3] ?_
   with_reducible refine (attestorref05_IsWord.calls k t690 t691 t692 _ _ t696 a3 t712 _ ?side1 ?side2 A15.out).mono ?_
   (case side1 => exact cU_ ((R_reads' HO698.out).2.2))
   (case side2 => exact (R_reads' HO698.out).2.1)
   rintro e w40 ⟨rfl, hb⟩
   refine ⟨_, rfl, ?_⟩
   refine nx7_ (R_below (rU_ HO695.out) hb) (R_below (rU_ HO698.out) hb) (R_below (rU_ HO702.out) hb) (R_below (rU_ HO705.out) hb) (R_below (rU_ HO709.out) hb) (blk_below (kU_ BK689.out) hb) (below_step sU_ hb) ?_
   clear HO695 HO698 HO702 HO705 HO709 BK689 HB
   intro HO695 HO698 HO702 HO705 HO709 BK689 HB
   (try clear hb)
   (try clear hb2)
   (try clear hk)
   (try clear hi)
   obtain ⟨Ao41, co41, eo41⟩ := R_slice HO705.out
   (first | subst eo41 | (injection eo41 with f1_ f2_ f3_; have f4_ := f1_.symm; have f5_ := f3_.symm; clear f1_ f2_ f3_; subst f4_; subst f5_))
   obtain ⟨Ao42, co42, eo42⟩ := R_slice HO709.out
   (first | subst eo42 | (injection eo42 with f1_ f2_ f3_; have f4_ := f1_.symm; have f5_ := f3_.symm; clear f1_ f2_ f3_; subst f4_; subst f5_))
   refine hK.out _ _ ⟨bc0_ BK689.out, bc1_ BK689.out, bc2_ BK689.out⟩ (fun hHeld => ?_)
   clear hK K
   refine norm_ (a' := ?_) ?_ ?_
   rotate_left
   ·show Act.put _ (some 51) _ = _
    simp only [Act.put, s1_, s2_, s3_, i64_w, i32_w]
    rfl
   refine pq_ 8 52 28 511 HT_.out ?_
   refine pq_ 9 53 28 1023 HT_.out ?_
   refine pq_ 10 54 28 2047 HT_.out ?_
   refine pq_ 11 55 28 4095 HT_.out ?_
   refine pq_ 12 56 28 8191 HT_.out ?_
   refine pq_ 13 57 28 16383 HT_.out ?_
   refine pq_ 14 58 28 32767 HT_.out ?_
   refine pq_ 15 59 28 65535 HT_.out ?_
   refine pq_ 16 60 28 131071 HT_.out ?_
   refine oq_ 17 61 28 262143 HT_.out fun K hK => ?_
   refine gs_ Tryd.func20 #[.slice Ao41 t703.length co41, .slice Ao42 t707.length co42] ?_
   with_reducible refine (attestorref01_Same.calls k _ _ t703 _ _ t707 true _ ?side1 ?side2 ?side3 ?side4 A18.out).mono ?_
   (case side1 => exact cU_ ((R_reads' HO705.out).2.2))
   (case side2 => exact (R_reads' HO705.out).2.1)
   (case side3 => exact cU_ ((R_reads' HO709.out).2.2))
   (case side4 => exact (R_reads' HO709.out).2.1)
   rintro e w' ⟨rfl, ⟨nd, rfl⟩⟩
   refine ⟨_, rfl, ?_⟩
   refine hK.out _ _ ⟨bc0_ BK689.out, bc1_ BK689.out, bc2_ BK689.out⟩ (fun hHeld => ?_)
   clear hK K
   refine norm_ (a' := ?_) ?_ ?_
   rotate_left
   ·show Act.put _ (some 61) _ = _
    simp only [Act.put, s1_, s2_, s3_, i64_w, i32_w]
    rfl
   refine pq_ 18 62 28 524287 HT_.out ?_
   refine pq_ 19 63 28 1048575 HT_.out ?_
   refine pq_ 20 64 28 2097151 HT_.out ?_
   refine pq_ 21 65 28 4194303 HT_.out ?_
   refine oq_ 22 66 28 8388607 HT_.out fun K hK => ?_
   refine gs_ Tryd.func20 #[.slice Ao28 t693.length co28, .slice Ao36 t696.length co36] ?_
   with_reducible refine (attestorref01_Same.calls k _ _ t693 _ _ t696 true _ ?side1 ?side2 ?side3 ?side4 A20.out).mono ?_
   (case side1 => exact cU_ ((R_reads' HO695.out).2.2))
   (case side2 => exact (R_reads' HO695.out).2.1)
   (case side3 => exact cU_ ((R_reads' HO698.out).2.2))
   (case side4 => exact (R_reads' HO698.out).2.1)
   rintro e w' ⟨rfl, ⟨nd, rfl⟩⟩
   refine ⟨_, rfl, ?_⟩
   refine hK.out _ _ ⟨bc0_ BK689.out, bc1_ BK689.out, bc2_ BK689.out⟩ (fun hHeld => ?_)
   clear hK K
   refine norm_ (a' := ?_) ?_ ?_
   rotate_left
   ·show Act.put _ (some 66) _ = _
    simp only [Act.put, s1_, s2_, s3_, i64_w, i32_w]
    rfl
   refine pq_ 23 67 28 16777215 HT_.out ?_
   refine pq_ 24 68 28 33554431 HT_.out ?_
   refine oq_ 25 69 28 67108863 HT_.out fun K hK => ?_
   refine gs_ Tryd.func23 #[] ?_
   with_reducible refine (attestorlaw05_works.calls k  t715 _ ?side1 A22.out).mono ?_
   (case side1 => repeat (first | with_reducible exact HG.out | with_reducible exact (Fld.below HG.out HB.out) | exact (Fld.below HG.out sU_) | (with_reducible refine Fld.alloc ?_ _) | (with_reducible refine Fld.drewN ?_ _) | (with_reducible refine Fld.drew ?_)))
   rintro e w43 ⟨rfl, hb⟩
   refine ⟨_, rfl, ?_⟩
   refine nx7_ (R_below (rU_ HO695.out) hb) (R_below (rU_ HO698.out) hb) (R_below (rU_ HO702.out) hb) (R_below (rU_ HO705.out) hb) (R_below (rU_ HO709.out) hb) (blk_below (kU_ BK689.out) hb) (below_step sU_ hb) ?_
   clear HO695 HO698 HO702 HO705 HO709 BK689 HB
   intro HO695 HO698 HO702 HO705 HO709 BK689 HB
   (try clear hb)
   (try clear hb2)
   (try clear hk)
   (try clear hi)
   refine hK.out _ _ ⟨bc0_ BK689.out, bc1_ BK689.out, bc2_ BK689.out⟩ (fun hHeld => ?_)
   clear hK K
   refine norm_ (a' := ?_) ?_ ?_
   rotate_left
   ·show Act.put _ (some 69) _ = _
    simp only [Act.put, s1_, s2_, s3_, i64_w, i32_w]
    rfl
   refine pq_ 26 70 28 134217727 HT_.out ?_
   refine pq_ 27 8 28 268435455 HT_.out ?_
   refine done_ (done_of HT_.out (by kernel_rfl)) ?_
   try go_wp2
   go_ret
   exact ⟨by first | rfl | (simp [errW_none, errW_some] <;> rfl) | (simp only [← hji8]; first | rfl | (simp [errW_none, errW_some] <;> rfl)) | (simp [*, errW_none, errW_some] <;> rfl), sU_⟩
  replace c21 := Bool.eq_false_iff.mpr c21
  subst c21
  rw [if_neg (show ¬ (false = true) by decide)] at H
  exact absurd H (by simp)
 replace c19 := Bool.eq_false_iff.mpr c19
 subst c19
 rw [if_neg (show ¬ (false = true) by decide)] at H
 exact absurd H (by simp)

end Go.Proofs.YtedapdagagkajaaDoor.Q

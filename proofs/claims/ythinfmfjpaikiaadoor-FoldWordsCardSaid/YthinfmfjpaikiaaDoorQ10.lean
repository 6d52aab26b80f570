import Derived.Test.YthinfmfjpaikiaaDoorQ0
import Derived.Test.YthinfmfjpaikiaaDoorQ2
import Derived.Test.YthinfmfjpaikiaaDoorQ4
import Derived.Test.YthinfmfjpaikiaaDoorQ5
namespace Go.Proofs.YthinfmfjpaikiaaDoor.Q
open Go.RowKit Go.Proofs.YthinfmfjpaikiaaDoorW.PrintWords Go.Proofs.YthinfmfjpaikiaaDoorW.PrintLast Go.Proofs.YthinfmfjpaikiaaDoorW.PrintMore
open Kd (R_below R_mono R_types R_lower R_newM R_base R_slice R_reads' V_below V_mono V_elder' V_mk C_below freshB R_drew V_drew)
attribute [local go_sem] max2_int min2_int max_two min_two max_three min_three max_four min_four   -- for this text's walks alone
set_option linter.unusedVariables false
set_option linter.unusedSimpArgs false

def attestorlaw09_small.f (a0_0 : Int) (a0_1 : Int) (a0_2 : Int) : Option (Int × Int × Int) := (attestorref05_Valid.f a0_0 a0_1 a0_2).bind fun t392 => (if t392 = true then (if a0_1 > 6 then (some (a0_0, Int.tmod a0_1 7, a0_2)) else (some (a0_0, a0_1, a0_2))) else (some (a0_0, a0_1, a0_2)))
set_option maxHeartbeats 8000000 in
set_option maxRecDepth 100000 in
theorem attestorlaw09_small.calls (a0_0 : Int) (a0_1 : Int) (a0_2 : Int) (r1 : Int) (r2 : Int) (r3 : Int) (w : World) (h : attestorlaw09_small.f a0_0 a0_1 a0_2 = some (r1, r2, r3)) :
  Calls Tryd.prog 24 #[.agg #[.int .i64 a0_0, .int .i64 a0_1, .int .u64 a0_2]] w fun e w' => e = .returned (.agg #[.int .i64 r1, .int .i64 r2, .int .u64 r3]) ∧ Below w.heap.size w w' := by
 have hu24 := Tryd.underlying24
 have HB := ak (Below.refl w.heap.size w)
 have H := h
 clear h
 unfold attestorlaw09_small.f at H
 revert H
 refine bd_ fun t392 A2 H => ?_
 by_cases c3 : t392 = true
 ·subst c3
  rw [if_pos rfl] at H
  by_cases c4 : a0_1 > 6
  ·rw [if_pos c4] at H
   have c4b0 : decide (6 < a0_1) = true := decide_eq_true c4
   clear c4
   simp only [Option.some.injEq, Prod.mk.injEq] at H
   obtain ⟨rfl, rfl, rfl⟩ := H
   go_enter Tryd.func24, Tryd.ntmps24
   go_wp2_with (first | ((with_reducible refine gate_dst (N := 1) rfl ?_); refine bx_ 1 24 #[.int .i64 a0_0, .int .i64 a0_1, .int .u64 a0_2] ?_; intro gb390 hg w5 hbox hb; refine nx4_ (below_step (bU_ HB.out) hb) (hbox) ((hs_ hg (below_size (bU_ HB.out)))) ((hs_ hg (below_size (bU_ HB.out)))) ?_; clear HB; intro HB BK390 GW390 GE390; clear hb hbox hg) | ((with_reducible refine gate_dst (N := 2) rfl ?_); refine bx_ 2 24 #[.int .i64 0, .int .i64 0, .int .u64 0] ?_; intro gb391 hg w6 hbox hb; refine nx7_ (blk_below (kU_ BK390.out) hb) (below_step sU_ hb) (hbox) ((hs_ hg (below_size sU_) : w.heap.size ≤ gb391)) ((hs_ hg (below_size sU_) : w.heap.size ≤ gb391)) ((hl_ hg (kU_ BK390.out))) ((hm_ hg (kU_ BK390.out))) ?_; clear BK390 HB; intro BK390 HB BK391 GW391 GE391 NB390_391 NB391_390; clear hb hbox hg; have hnb7 := NB390_391.out; have hnc7 := NB391_390.out; have hcz8_0 := bc0_ BK390.out; have hcz8_1 := bc1_ BK390.out; have hcz8_2 := bc2_ BK390.out; have hfz8_0 := blk_frozen BK390.out 0; have hfz8_1 := blk_frozen BK390.out 1; have hfz8_2 := blk_frozen BK390.out 2) | ((with_reducible refine gate_callee (f := 44) rfl ?_); refine gl_ (some 4) Tryd.func44 #[.agg #[.int .i64 a0_0, .int .i64 a0_1, .int .u64 a0_2]] ?_; (with_reducible refine (attestorref05_Valid.calls a0_0 a0_1 a0_2 true _ A2.out).mono ?_); rintro e w9 ⟨rfl, hb⟩; refine ⟨_, rfl, ?_⟩; refine nx3_ (blk_below (kU_ BK390.out) hb) (blk_below (kU_ BK391.out) hb) (below_step sU_ hb) ?_; clear BK390 BK391 HB; intro BK390 BK391 HB; clear hb; have hcz10_0 := bc0_ BK390.out; have hcz10_1 := bc1_ BK390.out; have hcz10_2 := bc2_ BK390.out; have hfz10_0 := blk_frozen BK390.out 0; have hfz10_1 := blk_frozen BK390.out 1; have hfz10_2 := blk_frozen BK390.out 2; have hcz11_0 := bc0_ BK391.out; have hcz11_1 := bc1_ BK391.out; have hcz11_2 := bc2_ BK391.out; have hfz11_0 := blk_frozen BK391.out 0; have hfz11_1 := blk_frozen BK391.out 1; have hfz11_2 := blk_frozen BK391.out 2))
   refine bodyPost_ret (results_cell_row rfl _ _ gb391 24 #[.int .i64 a0_0, .int .i64 (Int.tmod a0_1 7), .int .u64 a0_2] (0, 0) _ rfl (by (with_reducible repeat (first | refine blk_drewN ?_ _ | refine blk_drew ?_ | refine blk_alloc ?_ _)); refine blk_put (cs := #[.int .i64 a0_0, .int .i64 (Int.tmod a0_1 7), .int .u64 0]) ?_ 2 _ rfl; (with_reducible repeat (first | refine blk_drewN ?_ _ | refine blk_drew ?_ | refine blk_alloc ?_ _)); refine blk_put (cs := #[.int .i64 a0_0, .int .i64 0, .int .u64 0]) ?_ 1 _ rfl; (with_reducible repeat (first | refine blk_drewN ?_ _ | refine blk_drew ?_ | refine blk_alloc ?_ _)); refine blk_put (cs := #[.int .i64 0, .int .i64 0, .int .u64 0]) ?_ 0 _ rfl; (with_reducible repeat (first | refine blk_drewN ?_ _ | refine blk_drew ?_ | refine blk_alloc ?_ _)); refine blk_far ?_ NB391_390.out _; (with_reducible repeat (first | refine blk_drewN ?_ _ | refine blk_drew ?_ | refine blk_alloc ?_ _)); exact BK391.out) Tryd.underlying24 rfl (by kernel_rfl)) rfl ?_
   exact ⟨eW_, sU_⟩
  rw [if_neg c4] at H
  have c4b0 : decide (6 < a0_1) = false := decide_eq_false c4
  clear c4
  simp only [Option.some.injEq, Prod.mk.injEq] at H
  obtain ⟨rfl, rfl, rfl⟩ := H
  go_enter Tryd.func24, Tryd.ntmps24
  go_wp2_with (first | ((with_reducible refine gate_dst (N := 1) rfl ?_); refine bx_ 1 24 #[.int .i64 a0_0, .int .i64 a0_1, .int .u64 a0_2] ?_; intro gb390 hg w12 hbox hb; refine nx4_ (below_step (bU_ HB.out) hb) (hbox) ((hs_ hg (below_size (bU_ HB.out)))) ((hs_ hg (below_size (bU_ HB.out)))) ?_; clear HB; intro HB BK390 GW390 GE390; clear hb hbox hg) | ((with_reducible refine gate_dst (N := 2) rfl ?_); refine bx_ 2 24 #[.int .i64 0, .int .i64 0, .int .u64 0] ?_; intro gb391 hg w13 hbox hb; refine nx7_ (blk_below (kU_ BK390.out) hb) (below_step sU_ hb) (hbox) ((hs_ hg (below_size sU_) : w.heap.size ≤ gb391)) ((hs_ hg (below_size sU_) : w.heap.size ≤ gb391)) ((hl_ hg (kU_ BK390.out))) ((hm_ hg (kU_ BK390.out))) ?_; clear BK390 HB; intro BK390 HB BK391 GW391 GE391 NB390_391 NB391_390; clear hb hbox hg; have hnb14 := NB390_391.out; have hnc14 := NB391_390.out; have hcz15_0 := bc0_ BK390.out; have hcz15_1 := bc1_ BK390.out; have hcz15_2 := bc2_ BK390.out; have hfz15_0 := blk_frozen BK390.out 0; have hfz15_1 := blk_frozen BK390.out 1; have hfz15_2 := blk_frozen BK390.out 2) | ((with_reducible refine gate_callee (f := 44) rfl ?_); refine gl_ (some 4) Tryd.func44 #[.agg #[.int .i64 a0_0, .int .i64 a0_1, .int .u64 a0_2]] ?_; (with_reducible refine (attestorref05_Valid.calls a0_0 a0_1 a0_2 true _ A2.out).mono ?_); rintro e w16 ⟨rfl, hb⟩; refine ⟨_, rfl, ?_⟩; refine nx3_ (blk_below (kU_ BK390.out) hb) (blk_below (kU_ BK391.out) hb) (below_step sU_ hb) ?_; clear BK390 BK391 HB; intro BK390 BK391 HB; clear hb; have hcz17_0 := bc0_ BK390.out; have hcz17_1 := bc1_ BK390.out; have hcz17_2 := bc2_ BK390.out; have hfz17_0 := blk_frozen BK390.out 0; have hfz17_1 := blk_frozen BK390.out 1; have hfz17_2 := blk_frozen BK390.out 2; have hcz18_0 := bc0_ BK391.out; have hcz18_1 := bc1_ BK391.out; have hcz18_2 := bc2_ BK391.out; have hfz18_0 := blk_frozen BK391.out 0; have hfz18_1 := blk_frozen BK391.out 1; have hfz18_2 := blk_frozen BK391.out 2))
  refine bodyPost_ret (results_cell_row rfl _ _ gb391 24 #[.int .i64 a0_0, .int .i64 a0_1, .int .u64 a0_2] (0, 0) _ rfl kp_ Tryd.underlying24 rfl (by kernel_rfl)) rfl ?_
  exact ⟨eW_, sU_⟩
 replace c3 := Bool.eq_false_iff.mpr c3
 subst c3
 rw [if_neg (show ¬ (false = true) by decide)] at H
 simp only [Option.some.injEq, Prod.mk.injEq] at H
 obtain ⟨rfl, rfl, rfl⟩ := H
 go_enter Tryd.func24, Tryd.ntmps24
 go_wp2_with (first | ((with_reducible refine gate_dst (N := 1) rfl ?_); refine bx_ 1 24 #[.int .i64 a0_0, .int .i64 a0_1, .int .u64 a0_2] ?_; intro gb390 hg w19 hbox hb; refine nx4_ (below_step (bU_ HB.out) hb) (hbox) ((hs_ hg (below_size (bU_ HB.out)))) ((hs_ hg (below_size (bU_ HB.out)))) ?_; clear HB; intro HB BK390 GW390 GE390; clear hb hbox hg) | ((with_reducible refine gate_dst (N := 2) rfl ?_); refine bx_ 2 24 #[.int .i64 0, .int .i64 0, .int .u64 0] ?_; intro gb391 hg w20 hbox hb; refine nx7_ (blk_below (kU_ BK390.out) hb) (below_step sU_ hb) (hbox) ((hs_ hg (below_size sU_) : w.heap.size ≤ gb391)) ((hs_ hg (below_size sU_) : w.heap.size ≤ gb391)) ((hl_ hg (kU_ BK390.out))) ((hm_ hg (kU_ BK390.out))) ?_; clear BK390 HB; intro BK390 HB BK391 GW391 GE391 NB390_391 NB391_390; clear hb hbox hg; have hnb21 := NB390_391.out; have hnc21 := NB391_390.out; have hcz22_0 := bc0_ BK390.out; have hcz22_1 := bc1_ BK390.out; have hcz22_2 := bc2_ BK390.out; have hfz22_0 := blk_frozen BK390.out 0; have hfz22_1 := blk_frozen BK390.out 1; have hfz22_2 := blk_frozen BK390.out 2) | ((with_reducible refine gate_callee (f := 44) rfl ?_); refine gl_ (some 4) Tryd.func44 #[.agg #[.int .i64 a0_0, .int .i64 a0_1, .int .u64 a0_2]] ?_; (with_reducible refine (attestorref05_Valid.calls a0_0 a0_1 a0_2 false _ A2.out).mono ?_); rintro e w23 ⟨rfl, hb⟩; refine ⟨_, rfl, ?_⟩; refine nx3_ (blk_below (kU_ BK390.out) hb) (blk_below (kU_ BK391.out) hb) (below_step sU_ hb) ?_; clear BK390 BK391 HB; intro BK390 BK391 HB; clear hb; have hcz24_0 := bc0_ BK390.out; have hcz24_1 := bc1_ BK390.out; have hcz24_2 := bc2_ BK390.out; have hfz24_0 := blk_frozen BK390.out 0; have hfz24_1 := blk_frozen BK390.out 1; have hfz24_2 := blk_frozen BK390.out 2; have hcz25_0 := bc0_ BK391.out; have hcz25_1 := bc1_ BK391.out; have hcz25_2 := bc2_ BK391.out; have hfz25_0 := blk_frozen BK391.out 0; have hfz25_1 := blk_frozen BK391.out 1; have hfz25_2 := blk_frozen BK391.out 2))
 refine bodyPost_ret (results_cell_row rfl _ _ gb391 24 #[.int .i64 a0_0, .int .i64 a0_1, .int .u64 a0_2] (0, 0) _ rfl kp_ Tryd.underlying24 rfl (by kernel_rfl)) rfl ?_
 exact ⟨eW_, sU_⟩

def attestorref05_Size.f (a0_0 : Int) (a0_1 : Int) (a0_2 : Int) : Option (Int) := (attestorref05_Valid.f a0_0 a0_1 a0_2).bind fun t398 => (if t398 = true then (if 0 ≤ (IntKind.u64.wrap (a0_1)) then (some (shl .i64 1 (IntKind.u64.wrap (a0_1)))) else (none)) else (some 0))
set_option maxHeartbeats 8000000 in
set_option maxRecDepth 100000 in
theorem attestorref05_Size.calls (a0_0 : Int) (a0_1 : Int) (a0_2 : Int) (r : Int) (w : World) (h : attestorref05_Size.f a0_0 a0_1 a0_2 = some r) :
  Calls Tryd.prog 57 #[.agg #[.int .i64 a0_0, .int .i64 a0_1, .int .u64 a0_2]] w fun e w' => e = .returned (.int .i64 r) ∧ Below w.heap.size w w' := by
 have hu24 := Tryd.underlying24
 have HB := ak (Below.refl w.heap.size w)
 have H := h
 clear h
 unfold attestorref05_Size.f at H
 revert H
 refine bd_ fun t398 A2 H => ?_
 by_cases c3 : t398 = true
 ·subst c3
  rw [if_pos rfl] at H
  obtain ⟨ji4, hji4⟩ : ∃ j_ : Int, (IntKind.u64.wrap (a0_1)) = j_ := ⟨_, rfl⟩
  first | rw [hji4] at H | simp only [hji4] at H
  (try rw [hji4] at A2)
  obtain ⟨c5, H⟩ : (0 ≤ (ji4)) ∧ _ := it_ H
  have c5b0 := eq_true c5
  have c5b1 := decide_eq_true c5
  clear c5
  obtain ⟨ji6, hji6⟩ : ∃ j_ : Int, (shl .i64 1 (ji4)) = j_ := ⟨_, rfl⟩
  first | rw [hji6] at H | simp only [hji6] at H
  (try rw [hji6] at A2)
  have hji6_ : (IntKind.i64.wrap (1 * 2 ^ min (ji4).toNat 64)) = ji6 := hji6
  have hji6z : (ji4) ≤ 64 → (IntKind.i64.wrap (1 * 2 ^ (ji4).toNat)) = ji6 := shl_small hji6
  have hji6u : (IntKind.i64.wrap (2 ^ min (ji4).toNat 64)) = ji6 := by have h_ := hji6_; rw [Int.one_mul] at h_; exact h_
  have hji6v : (ji4) ≤ 64 → (IntKind.i64.wrap (2 ^ (ji4).toNat)) = ji6 := fun hle_ => by have h_ := hji6z hle_; rw [Int.one_mul] at h_; exact h_
  have hji6y : (wrap64 (1 * 2 ^ min (ji4).toNat 64)) = ji6 := (i64_w _).symm.trans hji6_
  have hji6x : (ji4) ≤ 64 → (wrap64 (1 * 2 ^ (ji4).toNat)) = ji6 := fun h_ => (i64_w _).symm.trans (hji6z h_)
  obtain rfl := Option.some.inj H
  go_enter Tryd.func57, Tryd.ntmps57
  go_wp2_with (first | ((with_reducible refine gate_dst (N := 1) rfl ?_); refine bx_ 1 24 #[.int .i64 a0_0, .int .i64 a0_1, .int .u64 a0_2] ?_; intro gb397 hg w7 hbox hb; refine nx4_ (below_step (bU_ HB.out) hb) (hbox) ((hs_ hg (below_size (bU_ HB.out)))) ((hs_ hg (below_size (bU_ HB.out)))) ?_; clear HB; intro HB BK397 GW397 GE397; clear hb hbox hg; have hcz8_0 := bc0_ BK397.out; have hcz8_1 := bc1_ BK397.out; have hcz8_2 := bc2_ BK397.out; have hfz8_0 := blk_frozen BK397.out 0; have hfz8_1 := blk_frozen BK397.out 1; have hfz8_2 := blk_frozen BK397.out 2) | ((with_reducible refine gate_callee (f := 44) rfl ?_); refine gl_ (some 4) Tryd.func44 #[.agg #[.int .i64 a0_0, .int .i64 a0_1, .int .u64 a0_2]] ?_; (with_reducible refine (attestorref05_Valid.calls a0_0 a0_1 a0_2 true _ A2.out).mono ?_); rintro e w9 ⟨rfl, hb⟩; refine ⟨_, rfl, ?_⟩; refine nx2_ (blk_below (kU_ BK397.out) hb) (below_step sU_ hb) ?_; clear BK397 HB; intro BK397 HB; clear hb; have hcz10_0 := bc0_ BK397.out; have hcz10_1 := bc1_ BK397.out; have hcz10_2 := bc2_ BK397.out; have hfz10_0 := blk_frozen BK397.out 0; have hfz10_1 := blk_frozen BK397.out 1; have hfz10_2 := blk_frozen BK397.out 2))
  go_ret
  exact ⟨by first | rfl | (simp [errW_none, errW_some] <;> rfl) | (simp only [← hji4, ← hji6]; first | rfl | (simp [errW_none, errW_some] <;> rfl)) | (simp [*, errW_none, errW_some] <;> rfl), sU_⟩
 replace c3 := Bool.eq_false_iff.mpr c3
 subst c3
 rw [if_neg (show ¬ (false = true) by decide)] at H
 obtain rfl := Option.some.inj H
 go_enter Tryd.func57, Tryd.ntmps57
 go_wp2_with (first | ((with_reducible refine gate_dst (N := 1) rfl ?_); refine bx_ 1 24 #[.int .i64 a0_0, .int .i64 a0_1, .int .u64 a0_2] ?_; intro gb397 hg w11 hbox hb; refine nx4_ (below_step (bU_ HB.out) hb) (hbox) ((hs_ hg (below_size (bU_ HB.out)))) ((hs_ hg (below_size (bU_ HB.out)))) ?_; clear HB; intro HB BK397 GW397 GE397; clear hb hbox hg; have hcz12_0 := bc0_ BK397.out; have hcz12_1 := bc1_ BK397.out; have hcz12_2 := bc2_ BK397.out; have hfz12_0 := blk_frozen BK397.out 0; have hfz12_1 := blk_frozen BK397.out 1; have hfz12_2 := blk_frozen BK397.out 2) | ((with_reducible refine gate_callee (f := 44) rfl ?_); refine gl_ (some 4) Tryd.func44 #[.agg #[.int .i64 a0_0, .int .i64 a0_1, .int .u64 a0_2]] ?_; (with_reducible refine (attestorref05_Valid.calls a0_0 a0_1 a0_2 false _ A2.out).mono ?_); rintro e w13 ⟨rfl, hb⟩; refine ⟨_, rfl, ?_⟩; refine nx2_ (blk_below (kU_ BK397.out) hb) (below_step sU_ hb) ?_; clear BK397 HB; intro BK397 HB; clear hb))
 go_ret
 exact ⟨eW_, sU_⟩

def attestorref09_Leaf.l0 : Nat → Int → List Int → Int → Nat → List Int → Nat → Option (List Int)
 | 0, _, _, _, _, _, _ => none
 | k + 1, d0, l, i, n, x, j => if j < 8 then if 0 ≤ wrap64 (i + wrap64 ((j : Int) * (n : Int))) ∧ wrap64 (i + wrap64 ((j : Int) * (n : Int))) < (l.length : Int) then (attestorref01_Reduce.f d0 (rd l (wrap64 (i + wrap64 ((j : Int) * (n : Int)))))).bind fun y => attestorref09_Leaf.l0 k d0 l i n (x.set j y) (j + 1) else none else some x
def attestorref09_Leaf.f (k : Nat) (d0 d1 d2 : Int) (l : List Int) (i : Int) : Option (List Int) := (attestorref05_Size.f d0 d1 d2).bind fun s => if 0 ≤ s ∧ s ≤ 9223372036854775807 then (if s / 8 = 0 then some (List.replicate 8 0) else if (l.length : Int) = s then (if i < 0 then some (List.replicate 8 0) else if i ≥ s / 8 then some (List.replicate 8 0) else attestorref09_Leaf.l0 k d0 l i (s / 8).toNat (List.replicate 8 0) 0) else some (List.replicate 8 0)) else none
set_option maxHeartbeats 8000000 in
set_option maxRecDepth 100000 in
theorem attestorref09_Leaf.calls8 (k : Nat) (a0_0 a0_1 a0_2 : Int) (A1 : Option Addr) (c1 : Nat) (l1 : List Int) (a2 : Int) (r : List Int) (w : World) (hr1 : Kd.C (Kd.int .u64) w A1 l1.length l1) (hc1 : l1.length ≤ c1) (h : attestorref09_Leaf.f k a0_0 a0_1 a0_2 l1 a2 = some r) :
  Calls Tryd.prog 30 #[.agg #[.int .i64 a0_0, .int .i64 a0_1, .int .u64 a0_2], .slice A1 l1.length c1, .int .i64 a2] w fun e w' => e = .returned (arW .u64 r) ∧ r.length = 8 ∧ Below w.heap.size w w' := by
 have hu := Tryd.underlying24
 have hlen := hr1.2.1
 have HR1 := ak hr1
 have HC1 := ak hc1
 clear hr1 hc1
 have HB := ak (Below.refl w.heap.size w)
 unfold attestorref09_Leaf.f at h
 obtain ⟨s, hw, h⟩ := Option.bind_eq_some_iff.mp h
 have HW := ak hw
 clear hw
 obtain ⟨⟨hs0, hs1⟩, h⟩ := it_ h
 obtain ⟨S, rfl⟩ : ∃ S : Nat, s = (S : Int) := ⟨s.toNat, by omega⟩
 obtain ⟨n, hn⟩ : ∃ n, n = S / 8 := ⟨_, rfl⟩
 have en : (S : Int) / 8 = (n : Int) := by omega
 have hn8 : n ≤ 1152921504606846976 := by omega
 rw [en] at h
 clear hn
 by_cases q0 : (n : Int) = 0
 ·rw [if_pos q0] at h
  obtain rfl := Option.some.inj h
  clear h
  obtain rfl : n = 0 := by omega
  go_enter Tryd.func30, Tryd.ntmps30
  go_wp2_with (first | ((with_reducible refine gate_dst (N := 3) rfl ?_); (try (refine gate_guard (by rfl) ?_; dsimp only)); refine bx_ 3 24 #[.int .i64 a0_0, .int .i64 a0_1, .int .u64 a0_2] ?_; intro gb hg w1 hbox hb; refine nx3_ (below_step (bU_ HB.out) hb) hbox ((hs_ hg (below_size (bU_ HB.out)))) ?_; clear HB; intro HB BK GW; clear hb hbox hg) | ((with_reducible refine gate_dst (N := 6) rfl ?_); refine hold_ ?_))
  refine ⟨?_⟩
  refine ev_alloc_ (some 6) 25 8 rfl rfl rfl zA8.1 ?_
  intro B w2 hB hA hb
  have hne := ak (show gb ≠ B by have := bk_lt BK.out; omega)
  refine nx4_ (below_step HB.out hb) (bk_ BK.out hb) hA (Nat.le_trans (below_size HB.out) hB) ?_
  clear HB BK hb hA hB
  intro HB BK HA GB
  go_wp2_with (first | ((with_reducible refine gate_dst (N := 7) rfl ?_); refine hold_ ?_))
  refine ⟨?_⟩
  refine ev_alloc_ (some 7) 25 8 rfl rfl rfl zA8.1 ?_
  intro B1 w3 hB hA1 hb
  have hne1 := ak (show gb ≠ B1 ∧ B ≠ B1 by have := bk_lt BK.out; have := HA.out.lt; omega)
  refine nx5_ (below_step HB.out hb) (bk_ BK.out hb) (HA.out.below hb) hA1 (Nat.le_trans (below_size HB.out) hB) ?_
  clear HB BK HA hb hA1 hB
  intro HB BK HA HA1 GB1
  have hczw3_0 := bc0_ BK.out; have hczw3_1 := bc1_ BK.out; have hczw3_2 := bc2_ BK.out; have hfzw3_0 := blk_frozen BK.out 0; have hfzw3_1 := blk_frozen BK.out 1; have hfzw3_2 := blk_frozen BK.out 2
  go_wp2_with (first | ((with_reducible refine gate_callee (f := 57) rfl ?_); refine gl_ (some 11) Tryd.func57 #[.agg #[.int .i64 a0_0, .int .i64 a0_1, .int .u64 a0_2]] ?_; refine hold_ ?_))
  refine ⟨?_⟩
  refine (attestorref05_Size.calls a0_0 a0_1 a0_2 (S : Int) _ HW.out).mono ?_
  rintro e w4 ⟨rfl, hb⟩
  refine ⟨_, rfl, ?_⟩
  clear hczw3_0 hfzw3_0 hczw3_1 hfzw3_1 hczw3_2 hfzw3_2
  refine nx4_ (below_step (bU_ HB.out) hb) (bk_ BK.out hb) (HA.out.below hb) (HA1.out.below hb) ?_
  clear HB BK HA HA1 hb
  intro HB BK HA HA1
  have hczw4_0 := bc0_ BK.out; have hczw4_1 := bc1_ BK.out; have hczw4_2 := bc2_ BK.out; have hfzw4_0 := blk_frozen BK.out 0; have hfzw4_1 := blk_frozen BK.out 1; have hfzw4_2 := blk_frozen BK.out 2
  go_wp2_with ((with_reducible refine gate_dst (N := 31) rfl ?_); refine hold_ ?_)
  refine ⟨?_⟩
  refine ev_load_ (some 31) 25 (.tmp 7) B1 8 22 _ rfl rfl rfl rfl HA1.out uA8 zA8.2 ?_
  go_wp2_with ((with_reducible refine gate_store (t := 25) (p := 6) rfl ?_); refine hold_ ?_)
  refine ⟨?_⟩
  refine ev_store_ 25 (.tmp 6) (.tmp 31) B _ (List.replicate 8 0) rfl rfl rfl rfl rfl HA.out rfl zA8.2 ?_
  intro w9 hA3 _ hs hw8
  have HB1 := hw8 _ _ GB.out HB.out
  go_wp2
  refine bodyPost_ret (results_arr rfl _ _ rfl hA3 uA8 zA8.2) rfl ?_
  exact ⟨rfl, rfl, HB1⟩
 rw [if_neg q0] at h
 have c0b : ((n : Int) == 0) = false := beq_eq_false_iff_ne.mpr q0
 by_cases q1 : (l1.length : Int) = (S : Int)
 ·rw [if_pos q1] at h
  have c1b : ((l1.length : Int) != (S : Int)) = false := bne_eq_false_iff_eq.mpr q1
  by_cases q2 : a2 < 0
  ·rw [if_pos q2] at h
   obtain rfl := Option.some.inj h
   clear h
   have c2b : decide (a2 < 0) = true := decide_eq_true q2
   go_enter Tryd.func30, Tryd.ntmps30
   go_wp2_with (first | ((with_reducible refine gate_dst (N := 3) rfl ?_); (try (refine gate_guard (by rfl) ?_; dsimp only)); refine bx_ 3 24 #[.int .i64 a0_0, .int .i64 a0_1, .int .u64 a0_2] ?_; intro gb hg w1 hbox hb; refine nx3_ (below_step (bU_ HB.out) hb) hbox ((hs_ hg (below_size (bU_ HB.out)))) ?_; clear HB; intro HB BK GW; clear hb hbox hg) | ((with_reducible refine gate_dst (N := 6) rfl ?_); refine hold_ ?_))
   refine ⟨?_⟩
   refine ev_alloc_ (some 6) 25 8 rfl rfl rfl zA8.1 ?_
   intro B w2 hB hA hb
   have hne := ak (show gb ≠ B by have := bk_lt BK.out; omega)
   refine nx4_ (below_step HB.out hb) (bk_ BK.out hb) hA (Nat.le_trans (below_size HB.out) hB) ?_
   clear HB BK hb hA hB
   intro HB BK HA GB
   go_wp2_with (first | ((with_reducible refine gate_dst (N := 7) rfl ?_); refine hold_ ?_))
   refine ⟨?_⟩
   refine ev_alloc_ (some 7) 25 8 rfl rfl rfl zA8.1 ?_
   intro B1 w3 hB hA1 hb
   have hne1 := ak (show gb ≠ B1 ∧ B ≠ B1 by have := bk_lt BK.out; have := HA.out.lt; omega)
   refine nx5_ (below_step HB.out hb) (bk_ BK.out hb) (HA.out.below hb) hA1 (Nat.le_trans (below_size HB.out) hB) ?_
   clear HB BK HA hb hA1 hB
   intro HB BK HA HA1 GB1
   have hczw3_0 := bc0_ BK.out; have hczw3_1 := bc1_ BK.out; have hczw3_2 := bc2_ BK.out; have hfzw3_0 := blk_frozen BK.out 0; have hfzw3_1 := blk_frozen BK.out 1; have hfzw3_2 := blk_frozen BK.out 2
   go_wp2_with (first | ((with_reducible refine gate_callee (f := 57) rfl ?_); refine gl_ (some 11) Tryd.func57 #[.agg #[.int .i64 a0_0, .int .i64 a0_1, .int .u64 a0_2]] ?_; refine hold_ ?_))
   refine ⟨?_⟩
   refine (attestorref05_Size.calls a0_0 a0_1 a0_2 (S : Int) _ HW.out).mono ?_
   rintro e w4 ⟨rfl, hb⟩
   refine ⟨_, rfl, ?_⟩
   clear hczw3_0 hfzw3_0 hczw3_1 hfzw3_1 hczw3_2 hfzw3_2
   refine nx4_ (below_step (bU_ HB.out) hb) (bk_ BK.out hb) (HA.out.below hb) (HA1.out.below hb) ?_
   clear HB BK HA HA1 hb
   intro HB BK HA HA1
   have hczw4_0 := bc0_ BK.out; have hczw4_1 := bc1_ BK.out; have hczw4_2 := bc2_ BK.out; have hfzw4_0 := blk_frozen BK.out 0; have hfzw4_1 := blk_frozen BK.out 1; have hfzw4_2 := blk_frozen BK.out 2
   go_wp2_with (first | (go_at_call 57; refine hold_ ?_))
   refine ⟨?_⟩
   refine (attestorref05_Size.calls a0_0 a0_1 a0_2 (S : Int) _ HW.out).mono ?_
   rintro e w5 ⟨rfl, hb⟩
   clear hczw4_0 hfzw4_0 hczw4_1 hfzw4_1 hczw4_2 hfzw4_2
   refine nx4_ (below_step (bU_ HB.out) hb) (bk_ BK.out hb) (HA.out.below hb) (HA1.out.below hb) ?_
   clear HB BK HA HA1 hb
   intro HB BK HA HA1
   have hczw5_0 := bc0_ BK.out; have hczw5_1 := bc1_ BK.out; have hczw5_2 := bc2_ BK.out; have hfzw5_0 := blk_frozen BK.out 0; have hfzw5_1 := blk_frozen BK.out 1; have hfzw5_2 := blk_frozen BK.out 2
   go_wp2_with ((with_reducible refine gate_dst (N := 31) rfl ?_); refine hold_ ?_)
   refine ⟨?_⟩
   refine ev_load_ (some 31) 25 (.tmp 7) B1 8 22 _ rfl rfl rfl rfl HA1.out uA8 zA8.2 ?_
   go_wp2_with ((with_reducible refine gate_store (t := 25) (p := 6) rfl ?_); refine hold_ ?_)
   refine ⟨?_⟩
   refine ev_store_ 25 (.tmp 6) (.tmp 31) B _ (List.replicate 8 0) rfl rfl rfl rfl rfl HA.out rfl zA8.2 ?_
   intro w9 hA3 _ hs hw8
   have HB1 := hw8 _ _ GB.out HB.out
   go_wp2
   refine bodyPost_ret (results_arr rfl _ _ rfl hA3 uA8 zA8.2) rfl ?_
   exact ⟨rfl, rfl, HB1⟩
  rw [if_neg q2] at h
  have c2b : decide (a2 < 0) = false := decide_eq_false q2
  by_cases q3 : a2 ≥ (n : Int)
  ·rw [if_pos q3] at h
   obtain rfl := Option.some.inj h
   clear h
   have c3b : decide ((n : Int) ≤ a2) = true := decide_eq_true q3
   go_enter Tryd.func30, Tryd.ntmps30
   go_wp2_with (first | ((with_reducible refine gate_dst (N := 3) rfl ?_); (try (refine gate_guard (by rfl) ?_; dsimp only)); refine bx_ 3 24 #[.int .i64 a0_0, .int .i64 a0_1, .int .u64 a0_2] ?_; intro gb hg w1 hbox hb; refine nx3_ (below_step (bU_ HB.out) hb) hbox ((hs_ hg (below_size (bU_ HB.out)))) ?_; clear HB; intro HB BK GW; clear hb hbox hg) | ((with_reducible refine gate_dst (N := 6) rfl ?_); refine hold_ ?_))
   refine ⟨?_⟩
   refine ev_alloc_ (some 6) 25 8 rfl rfl rfl zA8.1 ?_
   intro B w2 hB hA hb
   have hne := ak (show gb ≠ B by have := bk_lt BK.out; omega)
   refine nx4_ (below_step HB.out hb) (bk_ BK.out hb) hA (Nat.le_trans (below_size HB.out) hB) ?_
   clear HB BK hb hA hB
   intro HB BK HA GB
   go_wp2_with (first | ((with_reducible refine gate_dst (N := 7) rfl ?_); refine hold_ ?_))
   refine ⟨?_⟩
   refine ev_alloc_ (some 7) 25 8 rfl rfl rfl zA8.1 ?_
   intro B1 w3 hB hA1 hb
   have hne1 := ak (show gb ≠ B1 ∧ B ≠ B1 by have := bk_lt BK.out; have := HA.out.lt; omega)
   refine nx5_ (below_step HB.out hb) (bk_ BK.out hb) (HA.out.below hb) hA1 (Nat.le_trans (below_size HB.out) hB) ?_
   clear HB BK HA hb hA1 hB
   intro HB BK HA HA1 GB1
   have hczw3_0 := bc0_ BK.out; have hczw3_1 := bc1_ BK.out; have hczw3_2 := bc2_ BK.out; have hfzw3_0 := blk_frozen BK.out 0; have hfzw3_1 := blk_frozen BK.out 1; have hfzw3_2 := blk_frozen BK.out 2
   go_wp2_with (first | ((with_reducible refine gate_callee (f := 57) rfl ?_); refine gl_ (some 11) Tryd.func57 #[.agg #[.int .i64 a0_0, .int .i64 a0_1, .int .u64 a0_2]] ?_; refine hold_ ?_))
   refine ⟨?_⟩
   refine (attestorref05_Size.calls a0_0 a0_1 a0_2 (S : Int) _ HW.out).mono ?_
   rintro e w4 ⟨rfl, hb⟩
   refine ⟨_, rfl, ?_⟩
   clear hczw3_0 hfzw3_0 hczw3_1 hfzw3_1 hczw3_2 hfzw3_2
   refine nx4_ (below_step (bU_ HB.out) hb) (bk_ BK.out hb) (HA.out.below hb) (HA1.out.below hb) ?_
   clear HB BK HA HA1 hb
   intro HB BK HA HA1
   have hczw4_0 := bc0_ BK.out; have hczw4_1 := bc1_ BK.out; have hczw4_2 := bc2_ BK.out; have hfzw4_0 := blk_frozen BK.out 0; have hfzw4_1 := blk_frozen BK.out 1; have hfzw4_2 := blk_frozen BK.out 2
   go_wp2_with (first | (go_at_call 57; refine hold_ ?_))
   refine ⟨?_⟩
   refine (attestorref05_Size.calls a0_0 a0_1 a0_2 (S : Int) _ HW.out).mono ?_
   rintro e w5 ⟨rfl, hb⟩
   clear hczw4_0 hfzw4_0 hczw4_1 hfzw4_1 hczw4_2 hfzw4_2
   refine nx4_ (below_step (bU_ HB.out) hb) (bk_ BK.out hb) (HA.out.below hb) (HA1.out.below hb) ?_
   clear HB BK HA HA1 hb
   intro HB BK HA HA1
   have hczw5_0 := bc0_ BK.out; have hczw5_1 := bc1_ BK.out; have hczw5_2 := bc2_ BK.out; have hfzw5_0 := blk_frozen BK.out 0; have hfzw5_1 := blk_frozen BK.out 1; have hfzw5_2 := blk_frozen BK.out 2
   go_wp2_with ((with_reducible refine gate_dst (N := 31) rfl ?_); refine hold_ ?_)
   refine ⟨?_⟩
   refine ev_load_ (some 31) 25 (.tmp 7) B1 8 22 _ rfl rfl rfl rfl HA1.out uA8 zA8.2 ?_
   go_wp2_with ((with_reducible refine gate_store (t := 25) (p := 6) rfl ?_); refine hold_ ?_)
   refine ⟨?_⟩
   refine ev_store_ 25 (.tmp 6) (.tmp 31) B _ (List.replicate 8 0) rfl rfl rfl rfl rfl HA.out rfl zA8.2 ?_
   intro w9 hA3 _ hs hw8
   have HB1 := hw8 _ _ GB.out HB.out
   go_wp2
   refine bodyPost_ret (results_arr rfl _ _ rfl hA3 uA8 zA8.2) rfl ?_
   exact ⟨rfl, rfl, HB1⟩
  rw [if_neg q3] at h
  have HL := ak h
  clear h
  have c3b : decide ((n : Int) ≤ a2) = false := decide_eq_false q3
  rw [Int.toNat_natCast] at HL
  go_enter Tryd.func30, Tryd.ntmps30
  go_wp2_with (first | ((with_reducible refine gate_dst (N := 3) rfl ?_); (try (refine gate_guard (by rfl) ?_; dsimp only)); refine bx_ 3 24 #[.int .i64 a0_0, .int .i64 a0_1, .int .u64 a0_2] ?_; intro gb hg w1 hbox hb; refine nx3_ (below_step (bU_ HB.out) hb) hbox ((hs_ hg (below_size (bU_ HB.out)))) ?_; clear HB; intro HB BK GW; clear hb hbox hg) | ((with_reducible refine gate_dst (N := 6) rfl ?_); refine hold_ ?_))
  refine ⟨?_⟩
  refine ev_alloc_ (some 6) 25 8 rfl rfl rfl zA8.1 ?_
  intro B w2 hB hA hb
  have hne := ak (show gb ≠ B by have := bk_lt BK.out; omega)
  refine nx4_ (below_step HB.out hb) (bk_ BK.out hb) hA (Nat.le_trans (below_size HB.out) hB) ?_
  clear HB BK hb hA hB
  intro HB BK HA GB
  go_wp2_with (first | ((with_reducible refine gate_dst (N := 7) rfl ?_); refine hold_ ?_))
  refine ⟨?_⟩
  refine ev_alloc_ (some 7) 25 8 rfl rfl rfl zA8.1 ?_
  intro B1 w3 hB hA1 hb
  have hne1 := ak (show gb ≠ B1 ∧ B ≠ B1 by have := bk_lt BK.out; have := HA.out.lt; omega)
  refine nx5_ (below_step HB.out hb) (bk_ BK.out hb) (HA.out.below hb) hA1 (Nat.le_trans (below_size HB.out) hB) ?_
  clear HB BK HA hb hA1 hB
  intro HB BK HA HA1 GB1
  have hczw3_0 := bc0_ BK.out; have hczw3_1 := bc1_ BK.out; have hczw3_2 := bc2_ BK.out; have hfzw3_0 := blk_frozen BK.out 0; have hfzw3_1 := blk_frozen BK.out 1; have hfzw3_2 := blk_frozen BK.out 2
  go_wp2_with (first | ((with_reducible refine gate_callee (f := 57) rfl ?_); refine gl_ (some 11) Tryd.func57 #[.agg #[.int .i64 a0_0, .int .i64 a0_1, .int .u64 a0_2]] ?_; refine hold_ ?_))
  refine ⟨?_⟩
  refine (attestorref05_Size.calls a0_0 a0_1 a0_2 (S : Int) _ HW.out).mono ?_
  rintro e w4 ⟨rfl, hb⟩
  refine ⟨_, rfl, ?_⟩
  clear hczw3_0 hfzw3_0 hczw3_1 hfzw3_1 hczw3_2 hfzw3_2
  refine nx4_ (below_step (bU_ HB.out) hb) (bk_ BK.out hb) (HA.out.below hb) (HA1.out.below hb) ?_
  clear HB BK HA HA1 hb
  intro HB BK HA HA1
  have hczw4_0 := bc0_ BK.out; have hczw4_1 := bc1_ BK.out; have hczw4_2 := bc2_ BK.out; have hfzw4_0 := blk_frozen BK.out 0; have hfzw4_1 := blk_frozen BK.out 1; have hfzw4_2 := blk_frozen BK.out 2
  go_wp2_with (first | (go_at_call 57; refine hold_ ?_))
  refine ⟨?_⟩
  refine (attestorref05_Size.calls a0_0 a0_1 a0_2 (S : Int) _ HW.out).mono ?_
  rintro e w5 ⟨rfl, hb⟩
  clear hczw4_0 hfzw4_0 hczw4_1 hfzw4_1 hczw4_2 hfzw4_2
  refine nx4_ (below_step (bU_ HB.out) hb) (bk_ BK.out hb) (HA.out.below hb) (HA1.out.below hb) ?_
  clear HB BK HA HA1 hb
  intro HB BK HA HA1
  have hczw5_0 := bc0_ BK.out; have hczw5_1 := bc1_ BK.out; have hczw5_2 := bc2_ BK.out; have hfzw5_0 := blk_frozen BK.out 0; have hfzw5_1 := blk_frozen BK.out 1; have hfzw5_2 := blk_frozen BK.out 2
  go_wp2
  go_loopg [9] k (fun kq v9 w' => ∃ (j : Nat) (xs : List Int), v9 = .int .i64 (j : Int) ∧ Aside0 (attestorref09_Leaf.l0 kq a0_0 l1 a2 n xs j = some r) ∧ Aside0 (kq ≤ k) ∧ Aside0 (xs.length = 8) ∧ Aside0 (w'.heap[gb]? = some (.cells #[.int .i64 a0_0, .int .i64 a0_1, .int .u64 a0_2] 24 (0, 0))) ∧ Aside0 (Arr w' B 25 (List.replicate 8 0)) ∧ Aside0 (Arr w' B1 25 xs) ∧ Aside0 (Below w.heap.size w w'))
  case atStart => exact ⟨0, _, rfl, HL, ⟨Nat.le_refl _⟩, ⟨rfl⟩, BK, HA, HA1, HB⟩
  case round =>
   clear HL BK HA HA1 HB
   obtain ⟨j, xs, rfl, HX, HK, HLN, BK, HA, HA1, HB⟩ := hrel
   cases gk with
   | zero => exact absurd HX.out (by simp [attestorref09_Leaf.l0])
   | succ k1 =>
    have H := HX.out
    clear HX
    rw [attestorref09_Leaf.l0] at H
    by_cases q3 : j < 8
    ·rw [if_pos q3] at H
     have e1 : decide ((j : Int) < 8) = true := by simp; omega
     obtain ⟨⟨q4, q5⟩, H⟩ := it_ H
     have q5S : wrap64 (a2 + wrap64 ((j : Int) * (n : Int))) < (S : Int) := (by rw [← q1]; exact q5)
     obtain ⟨y, hy, H⟩ := Option.bind_eq_some_iff.mp H
     have HX := ak H
     have HY := ak hy
     clear H hy
     obtain ⟨ad, ea, hx⟩ := Kd.at_int HR1.out (wrap64 (a2 + wrap64 ((j : Int) * (n : Int)))) q4 q5
     cases ea
     replace hx := (HB.out.cell (World.block_lt_of_cell? w _ hx)).trans hx
     go_wp2
     refine start_ (n := 14) (S := fun w' => w'.heap[gb]? = some (.cells #[.int .i64 a0_0, .int .i64 a0_1, .int .u64 a0_2] 24 (0, 0)) ∧ w'.cell? (ad.add (wrap64 (a2 + wrap64 ((j : Int) * (n : Int)))).toNat) = some (.int .u64 (rd l1 (wrap64 (a2 + wrap64 ((j : Int) * (n : Int))))))) (ds := [13]) (bv 14 0) (by kernel_rfl) rfl rfl ⟨bk_ BK.out (below_drew1 (Below.refl _ _)), ((below_drew1 (Below.refl _ _) : Below wr.heap.size wr wr.drew).cell (World.block_lt_of_cell? _ _ hx)).trans hx⟩ (fun hHeld => ?_)
     refine nx3_ (HA.out.below (below_drew1 (Below.refl _ _))) (HA1.out.below (below_drew1 (Below.refl _ _))) (below_drew1 HB.out) ?_
     clear BK HA HA1 HB hx
     intro HA HA1 HB
     generalize wr.drew = w5 at HA HA1 HB hHeld ⊢
     have HT_ : Aside0 (rtab .any (opsOf Tryd.f30 8) = rtab .any (opsOf Tryd.f30 8)) := ⟨rfl⟩
     refine pq_ 0 36 14 1 HT_.out ?_
     refine pq_ 1 37 14 3 HT_.out ?_
     refine take_ (i := 2) (N := some 38) (v := ?_) (a' := ?_) (bv 14 7) rfl rfl (take_of HT_.out (by kernel_rfl)) (fun _ _ _ h => h) (Or.inl ⟨by rfl, ?_⟩) hHeld ?_ ?_
     rotate_left
     ·rintro w' ⟨s0, s1⟩
      have z0 : w'.cell? ⟨gb, 0, none⟩ = some (.int .i64 a0_0) := (blk_cell s0 0).trans rfl
      go_simp
      with_reducible rfl
     rotate_left
     ·simp only [Act.put, s1_, s2_, s3_, i64_w, i32_w]
      rfl
     refine pq_ 3 39 14 15 HT_.out ?_
     refine pq_ 4 40 14 31 HT_.out ?_
     refine pq_ 5 41 14 63 HT_.out ?_
     refine pq_ 6 42 14 127 HT_.out ?_
     refine pq_ 7 43 14 255 HT_.out ?_
     refine pq_ 8 44 14 511 HT_.out ?_
     refine pq_ 9 45 14 1023 HT_.out ?_
     refine take_ (i := 10) (N := some 46) (v := ?_) (a' := ?_) (bv 14 2047) rfl rfl (take_of HT_.out (by kernel_rfl)) (fun _ _ _ h => h) (Or.inl ⟨by rfl, ?_⟩) hHeld ?_ ?_
     rotate_left
     ·rintro w' ⟨s0, s1⟩
      have z0 : w'.cell? ⟨gb, 0, none⟩ = some (.int .i64 a0_0) := (blk_cell s0 0).trans rfl
      go_simp
      with_reducible rfl
     rotate_left
     ·simp only [Act.put, s1_, s2_, s3_, i64_w, i32_w]
      rfl
     refine oq_ 11 47 14 4095 HT_.out fun K hK => ?_
     refine gs_ Tryd.func47 #[.int .i64 a0_0, .int .u64 (rd l1 (wrap64 (a2 + wrap64 ((j : Int) * (n : Int)))))] ?_
     refine (attestorref01_Reduce.calls a0_0 (rd l1 (wrap64 (a2 + wrap64 ((j : Int) * (n : Int))))) y _ HY.out).mono ?_
     rintro e w6 ⟨rfl, hd⟩
     have hb := hd.below
     clear hd
     refine ⟨_, rfl, ?_⟩
     refine nx4_ (bk_ hHeld.1 hb) (HA.out.below hb) (HA1.out.below hb) (below_step (bU_ HB.out) hb) ?_
     clear HA HA1 HB
     intro BK HA HA1 HB
     refine hK.out _ _ ⟨bk_ hHeld.1 hb, (hb.cell (World.block_lt_of_cell? _ _ hHeld.2)).trans hHeld.2⟩ (fun hHeld => ?_)
     clear hK K hb
     refine norm_ (a' := ?_) ?_ ?_
     rotate_left
     ·show Act.put _ (some 47) _ = _
      simp only [Act.put, s1_, s2_, s3_, i64_w, i32_w]
      rfl
     have hu25 := uA8
     have e8 : (j : Int) < 8 := by omega
     have hj8 : j < xs.length := by have := HLN.out; omega
     refine pq_ 12 48 14 8191 HT_.out ?_
     have hxB := HA1.out.part.cell hj8
     have hfB := HA1.out.part.frozen j
     rw [Nat.zero_add] at hxB
     refine last_ (i := 13) (N := none) (bv 14 16383) rfl rfl (one_of HT_.out (by kernel_rfl)) (by decide) (fun K hK => ?_)
     refine skip_ (w1 := w6.setCell ⟨B1, j, none⟩ (.int .u64 y)) (by rfl) rfl ?_ ?_
     ·go_simp
     refine hK.out _ _ ?_
     clear hK K hHeld hxB hfB
     have hgr := setCell_grown w6 B1 j (.int .u64 y)
     refine nx4_ (bk_grown BK.out hgr hne1.out.1) (HA.out.grown hgr (fun e => hne1.out.2 (Option.some.inj e))) (HA1.out.set j y) (below_set HB.out GB1.out : Below w.heap.size w (w6.setCell ⟨B1, j, none⟩ (.int .u64 y))) ?_
     clear BK HA HA1 HB hgr
     intro BK HA HA1 HB
     refine done_ (done_of HT_.out (by kernel_rfl)) ?_
     go_wp2
     go_roundg k1
     case measure => have := HK.out; omega
     case rel => exact ⟨j + 1, _, by first | rfl | (simp; done) | (simp [*]; done), HX, ⟨by have := HK.out; omega⟩, ⟨by rw [List.length_set]; exact HLN.out⟩, BK, HA, HA1, HB⟩
    rw [if_neg q3] at H
    obtain rfl := Option.some.inj H
    clear H
    have e1 : decide ((j : Int) < 8) = false := by simp; omega
    go_wp2_with ((with_reducible refine gate_dst (N := 49) rfl ?_); refine hold_ ?_)
    refine ⟨?_⟩
    refine ev_load_ (some 49) 25 (.tmp 7) B1 8 22 _ rfl rfl rfl rfl HA1.out uA8 (by have := HLN.out; rw [this]; exact zA8.2) ?_
    go_wp2_with ((with_reducible refine gate_store (t := 25) (p := 6) rfl ?_); refine hold_ ?_)
    refine ⟨?_⟩
    refine ev_store_ 25 (.tmp 6) (.tmp 49) B _ xs rfl rfl rfl rfl rfl HA.out (by have := HLN.out; simpa using this) zA8.2 ?_
    intro w9 hA3 _ hs hw8
    have HB1 := hw8 _ _ GB.out HB.out
    go_wp2
    refine bodyPost_ret (results_arr rfl _ _ rfl hA3 uA8 (by have := HLN.out; rw [this]; exact zA8.2)) rfl ?_
    exact ⟨rfl, HLN.out, HB1⟩
 rw [if_neg q1] at h
 obtain rfl := Option.some.inj h
 clear h
 have c1b : ((l1.length : Int) != (S : Int)) = true := bne_iff_ne.mpr q1
 go_enter Tryd.func30, Tryd.ntmps30
 go_wp2_with (first | ((with_reducible refine gate_dst (N := 3) rfl ?_); (try (refine gate_guard (by rfl) ?_; dsimp only)); refine bx_ 3 24 #[.int .i64 a0_0, .int .i64 a0_1, .int .u64 a0_2] ?_; intro gb hg w1 hbox hb; refine nx3_ (below_step (bU_ HB.out) hb) hbox ((hs_ hg (below_size (bU_ HB.out)))) ?_; clear HB; intro HB BK GW; clear hb hbox hg) | ((with_reducible refine gate_dst (N := 6) rfl ?_); refine hold_ ?_))
 refine ⟨?_⟩
 refine ev_alloc_ (some 6) 25 8 rfl rfl rfl zA8.1 ?_
 intro B w2 hB hA hb
 have hne := ak (show gb ≠ B by have := bk_lt BK.out; omega)
 refine nx4_ (below_step HB.out hb) (bk_ BK.out hb) hA (Nat.le_trans (below_size HB.out) hB) ?_
 clear HB BK hb hA hB
 intro HB BK HA GB
 go_wp2_with (first | ((with_reducible refine gate_dst (N := 7) rfl ?_); refine hold_ ?_))
 refine ⟨?_⟩
 refine ev_alloc_ (some 7) 25 8 rfl rfl rfl zA8.1 ?_
 intro B1 w3 hB hA1 hb
 have hne1 := ak (show gb ≠ B1 ∧ B ≠ B1 by have := bk_lt BK.out; have := HA.out.lt; omega)
 refine nx5_ (below_step HB.out hb) (bk_ BK.out hb) (HA.out.below hb) hA1 (Nat.le_trans (below_size HB.out) hB) ?_
 clear HB BK HA hb hA1 hB
 intro HB BK HA HA1 GB1
 have hczw3_0 := bc0_ BK.out; have hczw3_1 := bc1_ BK.out; have hczw3_2 := bc2_ BK.out; have hfzw3_0 := blk_frozen BK.out 0; have hfzw3_1 := blk_frozen BK.out 1; have hfzw3_2 := blk_frozen BK.out 2
 go_wp2_with (first | ((with_reducible refine gate_callee (f := 57) rfl ?_); refine gl_ (some 11) Tryd.func57 #[.agg #[.int .i64 a0_0, .int .i64 a0_1, .int .u64 a0_2]] ?_; refine hold_ ?_))
 refine ⟨?_⟩
 refine (attestorref05_Size.calls a0_0 a0_1 a0_2 (S : Int) _ HW.out).mono ?_
 rintro e w4 ⟨rfl, hb⟩
 refine ⟨_, rfl, ?_⟩
 clear hczw3_0 hfzw3_0 hczw3_1 hfzw3_1 hczw3_2 hfzw3_2
 refine nx4_ (below_step (bU_ HB.out) hb) (bk_ BK.out hb) (HA.out.below hb) (HA1.out.below hb) ?_
 clear HB BK HA HA1 hb
 intro HB BK HA HA1
 have hczw4_0 := bc0_ BK.out; have hczw4_1 := bc1_ BK.out; have hczw4_2 := bc2_ BK.out; have hfzw4_0 := blk_frozen BK.out 0; have hfzw4_1 := blk_frozen BK.out 1; have hfzw4_2 := blk_frozen BK.out 2
 go_wp2_with (first | (go_at_call 57; refine hold_ ?_))
 refine ⟨?_⟩
 refine (attestorref05_Size.calls a0_0 a0_1 a0_2 (S : Int) _ HW.out).mono ?_
 rintro e w5 ⟨rfl, hb⟩
 clear hczw4_0 hfzw4_0 hczw4_1 hfzw4_1 hczw4_2 hfzw4_2
 refine nx4_ (below_step (bU_ HB.out) hb) (bk_ BK.out hb) (HA.out.below hb) (HA1.out.below hb) ?_
 clear HB BK HA HA1 hb
 intro HB BK HA HA1
 have hczw5_0 := bc0_ BK.out; have hczw5_1 := bc1_ BK.out; have hczw5_2 := bc2_ BK.out; have hfzw5_0 := blk_frozen BK.out 0; have hfzw5_1 := blk_frozen BK.out 1; have hfzw5_2 := blk_frozen BK.out 2
 go_wp2_with ((with_reducible refine gate_dst (N := 31) rfl ?_); refine hold_ ?_)
 refine ⟨?_⟩
 refine ev_load_ (some 31) 25 (.tmp 7) B1 8 22 _ rfl rfl rfl rfl HA1.out uA8 zA8.2 ?_
 go_wp2_with ((with_reducible refine gate_store (t := 25) (p := 6) rfl ?_); refine hold_ ?_)
 refine ⟨?_⟩
 refine ev_store_ 25 (.tmp 6) (.tmp 31) B _ (List.replicate 8 0) rfl rfl rfl rfl rfl HA.out rfl zA8.2 ?_
 intro w9 hA3 _ hs hw8
 have HB1 := hw8 _ _ GB.out HB.out
 go_wp2
 refine bodyPost_ret (results_arr rfl _ _ rfl hA3 uA8 zA8.2) rfl ?_
 exact ⟨rfl, rfl, HB1⟩
theorem attestorref09_Leaf.calls (k : Nat) (a0_0 a0_1 a0_2 : Int) (A1 : Option Addr) (c1 : Nat) (l1 : List Int) (a2 : Int) (r : List Int) (w : World) (hr1 : Kd.C (Kd.int .u64) w A1 l1.length l1) (hc1 : l1.length ≤ c1) (h : attestorref09_Leaf.f k a0_0 a0_1 a0_2 l1 a2 = some r) :
  Calls Tryd.prog 30 #[.agg #[.int .i64 a0_0, .int .i64 a0_1, .int .u64 a0_2], .slice A1 l1.length c1, .int .i64 a2] w fun e w' => e = .returned (.agg #[.int .u64 (bco r 0), .int .u64 (bco r 1), .int .u64 (bco r 2), .int .u64 (bco r 3), .int .u64 (bco r 4), .int .u64 (bco r 5), .int .u64 (bco r 6), .int .u64 (bco r 7)]) ∧ Below w.heap.size w w' :=
 (attestorref09_Leaf.calls8 k a0_0 a0_1 a0_2 A1 c1 l1 a2 r w hr1 hc1 h).mono fun _ _ h => ⟨by rw [h.1, arX_ h.2.1], h.2.2⟩

def attestorref04_Point.f (k : Nat) (a0 : Int) (a1 : Int) (a2 : Int) (a3 : Int) : Option (Int) := (attestorref01_Root.f k a0 a1).bind fun t399 => ((attestorref01_Pow.f k a0 t399 (IntKind.u64.wrap (a3))).bind fun t400 => ((attestorref01_Mul.f a0 a2 t400).bind fun t401 => (some t401)))
set_option maxHeartbeats 8000000 in
set_option maxRecDepth 100000 in
theorem attestorref04_Point.calls (k : Nat) (a0 : Int) (a1 : Int) (a2 : Int) (a3 : Int) (r : Int) (w : World) (h : attestorref04_Point.f k a0 a1 a2 a3 = some r) :
  Calls Tryd.prog 78 #[.int .i64 a0, .int .i64 a1, .int .u64 a2, .int .i64 a3] w fun e w' => e = .returned (.int .u64 r) ∧ Drawn0 w w' := by
 have H := h
 clear h
 unfold attestorref04_Point.f at H
 revert H
 refine bd_ fun t399 A5 H => ?_
 revert H
 refine bd_ fun t400 A6 H => ?_
 revert H
 refine bd_ fun t401 A7 H => ?_
 obtain rfl := Option.some.inj H
 go_enter Tryd.func78, Tryd.ntmps78
 go_wp2_with (first | ((with_reducible refine gate_callee (f := 48) rfl ?_); refine gl_ (some 14) Tryd.func48 #[.int .i64 a0, .int .i64 a1] ?_; (with_reducible refine (attestorref01_Root.calls k a0 a1 t399 _ A5.out).mono ?_); rintro e w' ⟨rfl, ⟨nd, rfl⟩⟩; refine ⟨_, rfl, ?_⟩) | ((with_reducible refine gate_callee (f := 45) rfl ?_); refine gl_ (some 17) Tryd.func45 #[.int .i64 a0, .int .u64 t399, .int .u64 (IntKind.u64.wrap (a3))] ?_; (with_reducible refine (attestorref01_Pow.calls k a0 t399 (IntKind.u64.wrap (a3)) t400 _ A6.out).mono ?_); rintro e w' ⟨rfl, ⟨nd, rfl⟩⟩; refine ⟨_, rfl, ?_⟩) | ((with_reducible refine gate_callee (f := 49) rfl ?_); refine gl_ (some 18) Tryd.func49 #[.int .i64 a0, .int .u64 a2, .int .u64 t400] ?_; (with_reducible refine (attestorref01_Mul.calls a0 a2 t400 t401 _ A7.out).mono ?_); rintro e w' ⟨rfl, ⟨nd, rfl⟩⟩; refine ⟨_, rfl, ?_⟩))
 go_ret
 exact ⟨by first | rfl | (simp; done) | (simp [*]; done), by repeat (first | exact Drawn0.refl _ | apply Drawn0.step)⟩

def attestorref05_Point.f (k : Nat) (a0_0 : Int) (a0_1 : Int) (a0_2 : Int) (a1 : Int) : Option (Int) := if a1 < 0 then (some 0) else ((attestorref05_Size.f a0_0 a0_1 a0_2).bind fun t403 => (if a1 ≥ t403 then (some 0) else ((attestorref04_Point.f k a0_0 a0_1 a0_2 a1).bind fun t404 => (some t404))))
set_option maxHeartbeats 8000000 in
set_option maxRecDepth 100000 in
theorem attestorref05_Point.calls (k : Nat) (a0_0 : Int) (a0_1 : Int) (a0_2 : Int) (a1 : Int) (r : Int) (w : World) (h : attestorref05_Point.f k a0_0 a0_1 a0_2 a1 = some r) :
  Calls Tryd.prog 58 #[.agg #[.int .i64 a0_0, .int .i64 a0_1, .int .u64 a0_2], .int .i64 a1] w fun e w' => e = .returned (.int .u64 r) ∧ Below w.heap.size w w' := by
 have hu24 := Tryd.underlying24
 have HB := ak (Below.refl w.heap.size w)
 have H := h
 clear h
 unfold attestorref05_Point.f at H
 by_cases c3 : a1 < 0
 ·rw [if_pos c3] at H
  have c3b0 := decide_eq_true c3
  clear c3
  obtain rfl := Option.some.inj H
  go_enter Tryd.func58, Tryd.ntmps58
  go_wp2_with (first | ((with_reducible refine gate_dst (N := 2) rfl ?_); refine bx_ 2 24 #[.int .i64 a0_0, .int .i64 a0_1, .int .u64 a0_2] ?_; intro gb402 hg w4 hbox hb; refine nx4_ (below_step (bU_ HB.out) hb) (hbox) ((hs_ hg (below_size (bU_ HB.out)))) ((hs_ hg (below_size (bU_ HB.out)))) ?_; clear HB; intro HB BK402 GW402 GE402; clear hb hbox hg))
  go_ret
  exact ⟨eW_, sU_⟩
 rw [if_neg c3] at H
 have c3b0 := decide_eq_false c3
 clear c3
 revert H
 refine bd_ fun t403 A5 H => ?_
 by_cases c6 : a1 ≥ t403
 ·rw [if_pos c6] at H
  have c6b0 : decide (t403 ≤ a1) = true := decide_eq_true c6
  clear c6
  obtain rfl := Option.some.inj H
  go_enter Tryd.func58, Tryd.ntmps58
  go_wp2_with (first | ((with_reducible refine gate_dst (N := 2) rfl ?_); refine bx_ 2 24 #[.int .i64 a0_0, .int .i64 a0_1, .int .u64 a0_2] ?_; intro gb402 hg w7 hbox hb; refine nx4_ (below_step (bU_ HB.out) hb) (hbox) ((hs_ hg (below_size (bU_ HB.out)))) ((hs_ hg (below_size (bU_ HB.out)))) ?_; clear HB; intro HB BK402 GW402 GE402; clear hb hbox hg; have hcz8_0 := bc0_ BK402.out; have hcz8_1 := bc1_ BK402.out; have hcz8_2 := bc2_ BK402.out; have hfz8_0 := blk_frozen BK402.out 0; have hfz8_1 := blk_frozen BK402.out 1; have hfz8_2 := blk_frozen BK402.out 2) | (go_at_call 57; (with_reducible refine (attestorref05_Size.calls a0_0 a0_1 a0_2 t403 _ A5.out).mono ?_); rintro e w9 ⟨rfl, hb⟩; refine nx2_ (blk_below (kU_ BK402.out) hb) (below_step sU_ hb) ?_; clear BK402 HB; intro BK402 HB; clear hb))
  go_ret
  exact ⟨eW_, sU_⟩
 rw [if_neg c6] at H
 have c6b0 : decide (t403 ≤ a1) = false := decide_eq_false c6
 clear c6
 revert H
 refine bd_ fun t404 A10 H => ?_
 obtain rfl := Option.some.inj H
 go_enter Tryd.func58, Tryd.ntmps58
 go_wp2_with (first | ((with_reducible refine gate_dst (N := 2) rfl ?_); refine bx_ 2 24 #[.int .i64 a0_0, .int .i64 a0_1, .int .u64 a0_2] ?_; intro gb402 hg w11 hbox hb; refine nx4_ (below_step (bU_ HB.out) hb) (hbox) ((hs_ hg (below_size (bU_ HB.out)))) ((hs_ hg (below_size (bU_ HB.out)))) ?_; clear HB; intro HB BK402 GW402 GE402; clear hb hbox hg; have hcz12_0 := bc0_ BK402.out; have hcz12_1 := bc1_ BK402.out; have hcz12_2 := bc2_ BK402.out; have hfz12_0 := blk_frozen BK402.out 0; have hfz12_1 := blk_frozen BK402.out 1; have hfz12_2 := blk_frozen BK402.out 2) | (go_at_call 57; (with_reducible refine (attestorref05_Size.calls a0_0 a0_1 a0_2 t403 _ A5.out).mono ?_); rintro e w13 ⟨rfl, hb⟩; refine nx2_ (blk_below (kU_ BK402.out) hb) (below_step sU_ hb) ?_; clear BK402 HB; intro BK402 HB; clear hb; have hcz14_0 := bc0_ BK402.out; have hcz14_1 := bc1_ BK402.out; have hcz14_2 := bc2_ BK402.out; have hfz14_0 := blk_frozen BK402.out 0; have hfz14_1 := blk_frozen BK402.out 1; have hfz14_2 := blk_frozen BK402.out 2) | ((with_reducible refine gate_callee (f := 78) rfl ?_); refine gl_ (some 20) Tryd.func78 #[.int .i64 a0_0, .int .i64 a0_1, .int .u64 a0_2, .int .i64 a1] ?_; (with_reducible refine (attestorref04_Point.calls k a0_0 a0_1 a0_2 a1 t404 _ A10.out).mono ?_); rintro e w' ⟨rfl, ⟨nd, rfl⟩⟩; refine ⟨_, rfl, ?_⟩))
 go_ret
 exact ⟨eW_, sU_⟩

mutual
def attestorref09_Word.j0 : Nat → List Int → Int → Bool → Int → Int → Int → Option (List Int × Int)
 | 0, _, _, _, _, _, _ => none
 | k + 1, x1, x2, x19, x406000, x406001, x406002 => if x19 = true then (some (([] : List Int), 1)) else (if x406001 < 3 then (some (([] : List Int), 2)) else (attestorref09_Word.l0 k x1 x2 ([] : List Int) 0 x406000 x406001 x406002))
def attestorref09_Word.l0 : Nat → List Int → Int → List Int → Int → Int → Int → Int → Option (List Int × Int)
 | 0, _, _, _, _, _, _, _ => none
 | k + 1, x1, x2, x8, x9, x406000, x406001, x406002 => (attestorref05_Size.f x406000 x406001 x406002).bind fun t408 => (if x9 < (wrap64 (Int.tdiv t408 8)) then ((attestorref05_Point.f k x406000 x406001 x406002 x9).bind fun t409 => ((attestorref09_Leaf.f k x406000 x406001 x406002 x1 x9).bind fun t410 => ((attestorref09_At.f k x406000 t409 t410 x2).bind fun t411 => (if x8.length < 17592186044416 then (attestorref09_Word.l0 k x1 x2 (x8 ++ [t411]) (wrap64 (x9 + 1)) x406000 x406001 x406002) else (none))))) else (some (x8, 0)))
end
def attestorref09_Word.f (k : Nat) (a0_0 : Int) (a0_1 : Int) (a0_2 : Int) (l1 : List Int) (a2 : Int) : Option (List Int × Int) := (attestorref05_Valid.f a0_0 a0_1 a0_2).bind fun t406 => (if t406 = true then ((attestorref05_Size.f a0_0 a0_1 a0_2).bind fun t407 => (attestorref09_Word.j0 k l1 a2 ((l1.length : Int) != t407) a0_0 a0_1 a0_2)) else (attestorref09_Word.j0 k l1 a2 true a0_0 a0_1 a0_2))
def attestorref09_Word.T9 : Bool × List (List Nat × List Nat) := (true, [([], []), ([], []), ([1], [1]), ([], []), ([], []), ([3, 4], [3, 4]), ([], []), ([], []), ([], []), ([6, 7, 8, 5], [6, 7, 8]), ([], []), ([2, 5, 9, 10, 9], [2, 5, 9, 10]), ([11], [11]), ([0, 12, 11], [0, 12]), ([13, 13, 0, 1, 2, 3, 4, 5, 6, 7, 8, 9, 10, 11, 12, 13], [0, 13])])
def attestorref09_Word.B9 : List Nat := [0, 0, 2, 0, 0, 24, 0, 0, 0, 504, 0, 2046, 4094, 8191, 16383]
theorem attestorref09_Word.tab9 : rtab .any (opsOf Tryd.f26 9) = attestorref09_Word.T9 := by kernel_rfl
theorem attestorref09_Word.bits9 : waitsOk attestorref09_Word.T9.2 attestorref09_Word.B9 = true := by kernel_rfl
set_option maxHeartbeats 8000000 in
set_option maxRecDepth 100000 in
theorem attestorref09_Word.calls (k : Nat) (a0_0 : Int) (a0_1 : Int) (a0_2 : Int) (A1 : Option Addr) (c1 : Nat) (l1 : List Int) (a2 : Int) (r1 : List Int) (r2 : Int) (w : World) (hr1 : Kd.C (Kd.int .u64) w A1 l1.length l1) (hc1 : l1.length ≤ c1) (h : attestorref09_Word.f k a0_0 a0_1 a0_2 l1 a2 = some (r1, r2)) :
  Calls Tryd.prog 26 #[.agg #[.int .i64 a0_0, .int .i64 a0_1, .int .u64 a0_2], .slice A1 l1.length c1, .int .u64 a2] w fun e w' => ∃ v0_ : Value, e = .returned (.tuple #[v0_, .int .i64 r2]) ∧ Kd.R (Kd.int .u64) 22 w' w.heap.size (fun _ => True) v0_ r1 ∧ Below w.heap.size w w' := by
 have hu24 := Tryd.underlying24
 have HR1 := ak hr1
 have HC1 := ak hc1
 clear hr1 hc1
 have HB := ak (Below.refl w.heap.size w)
 have H := h
 clear h
 unfold attestorref09_Word.f at H
 have HC4 := ak H
 clear H
 go_enter Tryd.func26, Tryd.ntmps26
 go_upto_region 1 with (first | ((with_reducible refine gate_dst (N := 3) rfl ?_); (try (refine gate_guard (by rfl) ?_; dsimp only)); refine bx_ 3 24 #[.int .i64 a0_0, .int .i64 a0_1, .int .u64 a0_2] ?_; intro gb405 hg w5 hbox hb; refine nx4_ (below_step (bU_ HB.out) hb) (hbox) ((hs_ hg (below_size (bU_ HB.out)))) ((hs_ hg (below_size (bU_ HB.out)))) ?_; clear HB; intro HB BK405 GW405 GE405; clear hb hbox hg))
 (try simp only [Act.put, s1_, s2_, s3_])
 go_cut [19] (fun v19 wc => ∃ (kq : Nat) (x19_3 : Bool), v19 = .bool x19_3 ∧ Aside0 (attestorref09_Word.j0 kq l1 a2 x19_3 a0_0 a0_1 a0_2 = some (r1, r2)) ∧ Aside0 (kq ≤ k) ∧ Aside0 (wc.heap[gb405]? = some (.cells #[.int .i64 a0_0, .int .i64 a0_1, .int .u64 a0_2] 24 (0, 0))) ∧ Aside0 (Below w.heap.size w wc))
 case first =>
  have H := HC4.out
  clear HC4
  revert H
  refine bd_ fun t406 A6 H => ?_
  by_cases c7 : t406 = true
  ·subst c7
   rw [if_pos rfl] at H
   revert H
   refine bd_ fun t407 A8 H => ?_
   have H' := ak H
   clear H
   have hcz9_0 := bc0_ BK405.out
   have hcz9_1 := bc1_ BK405.out
   have hcz9_2 := bc2_ BK405.out
   have hfz9_0 := blk_frozen BK405.out 0
   have hfz9_1 := blk_frozen BK405.out 1
   have hfz9_2 := blk_frozen BK405.out 2
   go_wp2_with (first | ((with_reducible refine gate_callee (f := 44) rfl ?_); refine gl_ (some 11) Tryd.func44 #[.agg #[.int .i64 a0_0, .int .i64 a0_1, .int .u64 a0_2]] ?_; (with_reducible refine (attestorref05_Valid.calls a0_0 a0_1 a0_2 true _ A6.out).mono ?_); rintro e w10 ⟨rfl, hb⟩; refine ⟨_, rfl, ?_⟩; refine nx2_ (blk_below (kU_ BK405.out) hb) (below_step sU_ hb) ?_; clear BK405 HB; intro BK405 HB; clear hb; have hcz11_0 := bc0_ BK405.out; have hcz11_1 := bc1_ BK405.out; have hcz11_2 := bc2_ BK405.out; have hfz11_0 := blk_frozen BK405.out 0; have hfz11_1 := blk_frozen BK405.out 1; have hfz11_2 := blk_frozen BK405.out 2) | (go_at_call 57; (with_reducible refine (attestorref05_Size.calls a0_0 a0_1 a0_2 t407 _ A8.out).mono ?_); rintro e w12 ⟨rfl, hb⟩; refine nx2_ (blk_below (kU_ BK405.out) hb) (below_step sU_ hb) ?_; clear BK405 HB; intro BK405 HB; clear hb))
   go_meet
   case rel => exact ⟨_, (((l1.length : Int) != t407)), gb_, H', ⟨by first | omega | exact Nat.le_refl _⟩, ⟨by (with_reducible repeat (first | refine blk_drewN ?_ _ | refine blk_drew ?_ | refine blk_alloc ?_ _)); exact BK405.out⟩, ⟨sU_⟩⟩
  replace c7 := Bool.eq_false_iff.mpr c7
  subst c7
  rw [if_neg (show ¬ (false = true) by decide)] at H
  have H' := ak H
  clear H
  have hcz13_0 := bc0_ BK405.out
  have hcz13_1 := bc1_ BK405.out
  have hcz13_2 := bc2_ BK405.out
  have hfz13_0 := blk_frozen BK405.out 0
  have hfz13_1 := blk_frozen BK405.out 1
  have hfz13_2 := blk_frozen BK405.out 2
  go_wp2_with (first | ((with_reducible refine gate_callee (f := 44) rfl ?_); refine gl_ (some 11) Tryd.func44 #[.agg #[.int .i64 a0_0, .int .i64 a0_1, .int .u64 a0_2]] ?_; (with_reducible refine (attestorref05_Valid.calls a0_0 a0_1 a0_2 false _ A6.out).mono ?_); rintro e w14 ⟨rfl, hb⟩; refine ⟨_, rfl, ?_⟩; refine nx2_ (blk_below (kU_ BK405.out) hb) (below_step sU_ hb) ?_; clear BK405 HB; intro BK405 HB; clear hb))
  go_meet
  case rel => exact ⟨_, (true), gb_, H', ⟨by first | omega | exact Nat.le_refl _⟩, ⟨by (with_reducible repeat (first | refine blk_drewN ?_ _ | refine blk_drew ?_ | refine blk_alloc ?_ _)); exact BK405.out⟩, ⟨sU_⟩⟩
 case rest =>
  clear HC4
  (try clear c1); (try clear c2); (try clear p2); (try clear c4); (try clear c7); (try clear hcz11_0); (try clear hcz11_1); (try clear hcz11_2); (try clear hcz13_0); (try clear hcz13_1); (try clear hcz13_2); (try clear hcz9_0); (try clear hcz9_1); (try clear hcz9_2); (try clear hfz11_0); (try clear hfz11_1); (try clear hfz11_2); (try clear hfz13_0); (try clear hfz13_1); (try clear hfz13_2); (try clear hfz9_0); (try clear hfz9_1); (try clear hfz9_2)
  obtain ⟨kq, x19_3, rfl, HA, HJ3, BK405, HB⟩ := hcut
  cases kq with
  | zero => exact absurd HA.out (by simp [attestorref09_Word.j0])
  | succ kj3 =>
   have H := HA.out
   clear HA
   simp only [attestorref09_Word.j0] at H
   by_cases c15 : x19_3 = true
   ·subst c15
    rw [if_pos rfl] at H
    simp only [Option.some.injEq, Prod.mk.injEq] at H
    obtain ⟨rfl, rfl⟩ := H
    go_wp2
    go_ret2
    exact ⟨_, eW_, by first | exact Kd.R_nil _ _ _ _ _ | exact Kd.N_nil _ _ _ _ _ | exact Kd.V_nil _ _ _ _ _ | exact Kd.Q_nil _ _ _ _ _ | exact Kd.S_nil _ _ _ _ _, sU_⟩
   replace c15 := Bool.eq_false_iff.mpr c15
   subst c15
   rw [if_neg (show ¬ (false = true) by decide)] at H
   by_cases c16 : a0_1 < 3
   ·rw [if_pos c16] at H
    have c16b0 := decide_eq_true c16
    clear c16
    simp only [Option.some.injEq, Prod.mk.injEq] at H
    obtain ⟨rfl, rfl⟩ := H
    have hcz17_0 := bc0_ BK405.out
    have hcz17_1 := bc1_ BK405.out
    have hcz17_2 := bc2_ BK405.out
    have hfz17_0 := blk_frozen BK405.out 0
    have hfz17_1 := blk_frozen BK405.out 1
    have hfz17_2 := blk_frozen BK405.out 2
    go_wp2
    go_ret2
    exact ⟨_, eW_, by first | exact Kd.R_nil _ _ _ _ _ | exact Kd.N_nil _ _ _ _ _ | exact Kd.V_nil _ _ _ _ _ | exact Kd.Q_nil _ _ _ _ _ | exact Kd.S_nil _ _ _ _ _, sU_⟩
   rw [if_neg c16] at H
   have c16b0 := decide_eq_false c16
   clear c16
   have H' := ak H
   clear H
   have hcz18_0 := bc0_ BK405.out
   have hcz18_1 := bc1_ BK405.out
   have hcz18_2 := bc2_ BK405.out
   have hfz18_0 := blk_frozen BK405.out 0
   have hfz18_1 := blk_frozen BK405.out 1
   have hfz18_2 := blk_frozen BK405.out 2
   go_wp2
   go_loopg [8, 9] kj3 (fun kq v8 v9 w' => ∃ (x8_2 : List Int) (x9_2 : Int), v9 = .int .i64 x9_2 ∧ Aside0 (attestorref09_Word.l0 kq l1 a2 x8_2 x9_2 a0_0 a0_1 a0_2 = some (r1, r2)) ∧ Aside0 (kq ≤ kj3) ∧ Aside0 (Kd.R (Kd.int .u64) 22 w' w.heap.size (fun _ => True) v8 x8_2) ∧ Aside0 (w'.heap[gb405]? = some (.cells #[.int .i64 a0_0, .int .i64 a0_1, .int .u64 a0_2] 24 (0, 0))) ∧ Aside0 (Below w.heap.size w w'))
   case atStart => exact ⟨(([] : List Int)), (0), gb_, H', ⟨Nat.le_refl _⟩, ⟨by first | exact Kd.R_nil _ _ _ _ _ | exact Kd.N_nil _ _ _ _ _ | exact Kd.V_nil _ _ _ _ _ | exact Kd.Q_nil _ _ _ _ _ | exact Kd.S_nil _ _ _ _ _⟩, ⟨by (with_reducible repeat (first | refine blk_drewN ?_ _ | refine blk_drew ?_ | refine blk_alloc ?_ _)); exact BK405.out⟩, ⟨sU_⟩⟩
   case round =>
    clear H'
    (try clear c1); (try clear c2); (try clear p2); (try clear c4); (try clear c7); (try clear c15); (try clear c16); (try clear c16b0); (try clear hcz11_0); (try clear hcz11_1); (try clear hcz11_2); (try clear hcz13_0); (try clear hcz13_1); (try clear hcz13_2); (try clear hcz17_0); (try clear hcz17_1); (try clear hcz17_2); (try clear hcz18_0); (try clear hcz18_1); (try clear hcz18_2); (try clear hcz9_0); (try clear hcz9_1); (try clear hcz9_2); (try clear hfz11_0); (try clear hfz11_1); (try clear hfz11_2); (try clear hfz13_0); (try clear hfz13_1); (try clear hfz13_2); (try clear hfz17_0); (try clear hfz17_1); (try clear hfz17_2); (try clear hfz18_0); (try clear hfz18_1); (try clear hfz18_2); (try clear hfz9_0); (try clear hfz9_1); (try clear hfz9_2)
    obtain ⟨x8_2, x9_2, rfl, HA, HK2, HO_8, BK405, HB⟩ := hrel
    cases gk with
    | zero => exact absurd HA.out (by simp [attestorref09_Word.l0])
    | succ k2 =>
     have H := HA.out
     clear HA
     simp only [attestorref09_Word.l0] at H
     revert H
     refine bd_ fun t408 A19 H => ?_
     by_cases c20 : x9_2 < (wrap64 (Int.tdiv t408 8))
     ·rw [if_pos c20] at H
      have c20b0 := decide_eq_true c20
      clear c20
      revert H
      refine bd_ fun t409 A21 H => ?_
      revert H
      refine bd_ fun t410 A22 H => ?_
      revert H
      refine bd_ fun t411 A23 H => ?_
      obtain ⟨c24, H⟩ : (x8_2.length < 17592186044416) ∧ _ := it_ H
      have LMc24 := ak c24
      clear c24
      obtain ⟨y412, hy412⟩ : ∃ y_ : List Int, y_ = (x8_2 ++ [t411]) := ⟨_, rfl⟩
      first | rw [Option.bind_some, ← hy412] at H | rw [← hy412] at H
      have Ny412 := ak hy412
      clear hy412
      have H' := ak H
      clear H
      have hcz25_0 := bc0_ BK405.out
      have hcz25_1 := bc1_ BK405.out
      have hcz25_2 := bc2_ BK405.out
      have hfz25_0 := blk_frozen BK405.out 0
      have hfz25_1 := blk_frozen BK405.out 1
      have hfz25_2 := blk_frozen BK405.out 2
      try go_wp2_with (first | ((with_reducible refine gate_callee (f := 57) rfl ?_); refine gl_ (some 25) Tryd.func57 #[.agg #[.int .i64 a0_0, .int .i64 a0_1, .int .u64 a0_2]] ?_; (with_reducible refine (attestorref05_Size.calls a0_0 a0_1 a0_2 t408 _ A19.out).mono ?_); rintro e w26 ⟨rfl, hb⟩; refine ⟨_, rfl, ?_⟩; refine nx3_ (R_below (rU_ HO_8.out) hb) (blk_below (kU_ BK405.out) hb) (below_step sU_ hb) ?_; clear HO_8 BK405 HB; intro HO_8 BK405 HB; clear hb))
      refine nx3_ (R_drew HO_8.out) (blk_drew BK405.out) (below_drew1 HB.out) ?_
      clear HO_8 BK405 HB
      intro HO_8 BK405 HB
      refine start_ (n := 15) (S := fun w' => w'.cell? ⟨gb405, 0, none⟩ = some (.int .i64 a0_0) ∧ w'.cell? ⟨gb405, 1, none⟩ = some (.int .i64 a0_1) ∧ w'.cell? ⟨gb405, 2, none⟩ = some (.int .u64 a0_2)) (ds := []) (bv 15 0) (by kernel_rfl) rfl rfl ⟨bc0_ BK405.out, bc1_ BK405.out, bc2_ BK405.out⟩ (fun hHeld => ?_); refine with_tabW attestorref09_Word.tab9 attestorref09_Word.bits9 (fun HT_ HW_ => ?_)
      generalize w26.drew = w27 at HO_8 BK405 HB hHeld ⊢
      refine pq_ 0 30 15 1 HT_.out ?_
      refine pq_ 1 31 15 3 HT_.out ?_
      refine pq_ 4 34 15 19 HT_.out ?_
      refine pq_ 7 37 15 147 HT_.out ?_
      refine pq_ 8 38 15 403 HT_.out ?_
      refine pq_ 10 40 15 1427 HT_.out ?_
      refine tq_ 2 32 15 1431 HT_.out HW_.out hHeld ?_
      refine tq_ 3 33 15 1439 HT_.out HW_.out hHeld ?_
      refine tq_ 6 36 15 1503 HT_.out HW_.out hHeld ?_
      refine oq_ 5 35 15 1535 HT_.out fun K hK => ?_
      refine gs_ Tryd.func58 #[.agg #[.int .i64 a0_0, .int .i64 a0_1, .int .u64 a0_2], .int .i64 x9_2] ?_
      with_reducible refine (attestorref05_Point.calls k2 a0_0 a0_1 a0_2 x9_2 t409 _ A21.out).mono ?_
      rintro e w28 ⟨rfl, hb⟩
      refine ⟨_, rfl, ?_⟩
      refine nx3_ (R_below (rU_ HO_8.out) hb) (blk_below (kU_ BK405.out) hb) (below_step sU_ hb) ?_
      clear HO_8 BK405 HB
      intro HO_8 BK405 HB
      (try clear hb)
      (try clear hb2)
      (try clear hk)
      (try clear hi)
      refine hK.out _ _ ⟨bc0_ BK405.out, bc1_ BK405.out, bc2_ BK405.out⟩ (fun hHeld => ?_)
      clear hK K
      refine norm_ (a' := ?_) ?_ ?_
      rotate_left
      ·show Act.put _ (some 35) _ = _
       simp only [Act.put, s1_, s2_, s3_, i64_w, i32_w]
       rfl
      refine oq_ 9 39 15 2047 HT_.out fun K hK => ?_
      refine gs_ Tryd.func30 #[.agg #[.int .i64 a0_0, .int .i64 a0_1, .int .u64 a0_2], .slice A1 l1.length c1, .int .i64 x9_2] ?_
      with_reducible refine (attestorref09_Leaf.calls k2 a0_0 a0_1 a0_2 _ _ l1 x9_2 t410 _ ?side1 ?side2 A22.out).mono ?_
      (case side1 => exact cU_ (C_below HR1.out HB.out))
      (case side2 => exact HC1.out)
      rintro e w29 ⟨rfl, hb⟩
      refine ⟨_, rfl, ?_⟩
      refine nx3_ (R_below (rU_ HO_8.out) hb) (blk_below (kU_ BK405.out) hb) (below_step sU_ hb) ?_
      clear HO_8 BK405 HB
      intro HO_8 BK405 HB
      (try clear hb)
      (try clear hb2)
      (try clear hk)
      (try clear hi)
      refine hK.out _ _ ⟨bc0_ BK405.out, bc1_ BK405.out, bc2_ BK405.out⟩ (fun hHeld => ?_)
      clear hK K
      refine norm_ (a' := ?_) ?_ ?_
      rotate_left
      ·show Act.put _ (some 39) _ = _
       simp only [Act.put, s1_, s2_, s3_, i64_w, i32_w]
       rfl
      refine oq_ 11 41 15 4095 HT_.out fun K hK => ?_
      refine gs_ Tryd.func15 #[.int .i64 a0_0, .int .u64 t409, .agg #[.int .u64 (bco t410 0), .int .u64 (bco t410 1), .int .u64 (bco t410 2), .int .u64 (bco t410 3), .int .u64 (bco t410 4), .int .u64 (bco t410 5), .int .u64 (bco t410 6), .int .u64 (bco t410 7)], .int .u64 a2] ?_
      with_reducible refine (attestorref09_At.calls k2 a0_0 t409 t410 a2 t411 _ A23.out).mono ?_
      rintro e w30 ⟨rfl, hb⟩
      refine ⟨_, rfl, ?_⟩
      refine nx3_ (R_below (rU_ HO_8.out) hb) (blk_below (kU_ BK405.out) hb) (below_step sU_ hb) ?_
      clear HO_8 BK405 HB
      intro HO_8 BK405 HB
      (try clear hb)
      (try clear hb2)
      (try clear hk)
      (try clear hi)
      refine hK.out _ _ ⟨bc0_ BK405.out, bc1_ BK405.out, bc2_ BK405.out⟩ (fun hHeld => ?_)
      clear hK K
      refine norm_ (a' := ?_) ?_ ?_
      rotate_left
      ·show Act.put _ (some 41) _ = _
       simp only [Act.put, s1_, s2_, s3_, i64_w, i32_w]
       rfl
      refine oq_ 12 42 15 8191 HT_.out fun K hK => ?_
      refine value_ (w1 := ?_) (v := ?_) (by rfl) rfl ?_ ?_
      rotate_left 2
      ·go_simp
       constructor
       ·rfl
       rfl
      refine hK.out _ _ ⟨(blk_cell (blk_alloc BK405.out _) 0).trans rfl, (blk_cell (blk_alloc BK405.out _) 1).trans rfl, (blk_cell (blk_alloc BK405.out _) 2).trans rfl⟩ (fun hHeld => ?_)
      clear hK K
      refine norm_ (a' := ?_) ?_ ?_
      rotate_left
      ·show Act.put _ (some 42) _ = _
       simp only [Act.put, s1_, s2_, s3_, i64_w, i32_w]
       rfl
      refine oq_ 13 43 15 16383 HT_.out fun K hK => ?_
      refine Kd.R_append_step (Kd.int .u64) (w0 := w) w.heap.size (by rfl) (.tmp 30) (.tmp 42) 33 22 (.int .u64 0) 8 rfl Tryd.underlying33 info22 rfl (by decide) (by omega) u8 x8_2 t411 [.int .u64 t411] (fun _ => True) (fun _ => False) rfl rfl ?aP (fun _ hk => hk.elim) ?aF ?aO ?aB ?aS ?aL ?_
      (case aP => exact rfl)
      (case aB => exact sU_)
      (case aF => exact (fun _ _ => trivial))
      (case aO => exact (rU_ HO_8.out))
      (case aS => exact (below_size sU_))
      (case aL => have := LMc24.out; omega)
      intro v413 w31 ho hb hg hat
      rw [← Ny412.out] at ho
      refine nx3_ (blk_grown (g := gb405) (o := .cells #[.int .i64 a0_0, .int .i64 a0_1, .int .u64 a0_2] 24 (0, 0)) (kU_ BK405.out) hg (Kd.R_ne HO_8.out BK405.out (by decide))) (hb) (ho) ?_
      clear BK405 HB HO_8
      intro BK405 HB HO414
      clear ho hb hg hat
      refine hK.out _ _ ⟨bc0_ BK405.out, bc1_ BK405.out, bc2_ BK405.out⟩ (fun hHeld => ?_)
      clear hK K
      refine norm_ (a' := ?_) ?_ ?_
      rotate_left
      ·show Act.put _ (some 43) _ = _
       simp only [Act.put, s1_, s2_, s3_, i64_w, i32_w]
       rfl
      refine pq_ 14 8 15 32767 HT_.out ?_
      refine done_ (done_of HT_.out (by kernel_rfl)) ?_
      try go_wp2
      go_roundg k2
      case measure => have := HJ3.out; have := HK2.out; omega
      case rel => exact ⟨(y412), (wrap64 (x9_2 + 1)), gb_, H', ⟨by have := HJ3.out; have := HK2.out; omega⟩, ⟨rU_ HO414.out⟩, ⟨by (with_reducible repeat (first | refine blk_drewN ?_ _ | refine blk_drew ?_ | refine blk_alloc ?_ _)); exact BK405.out⟩, ⟨sU_⟩⟩
     rw [if_neg c20] at H
     have c20b0 := decide_eq_false c20
     clear c20
     simp only [Option.some.injEq, Prod.mk.injEq] at H
     obtain ⟨rfl, rfl⟩ := H
     have hcz32_0 := bc0_ BK405.out
     have hcz32_1 := bc1_ BK405.out
     have hcz32_2 := bc2_ BK405.out
     have hfz32_0 := blk_frozen BK405.out 0
     have hfz32_1 := blk_frozen BK405.out 1
     have hfz32_2 := blk_frozen BK405.out 2
     go_wp2_with (first | ((with_reducible refine gate_callee (f := 57) rfl ?_); refine gl_ (some 25) Tryd.func57 #[.agg #[.int .i64 a0_0, .int .i64 a0_1, .int .u64 a0_2]] ?_; (with_reducible refine (attestorref05_Size.calls a0_0 a0_1 a0_2 t408 _ A19.out).mono ?_); rintro e w33 ⟨rfl, hb⟩; refine ⟨_, rfl, ?_⟩; refine nx3_ (R_below (rU_ HO_8.out) hb) (blk_below (kU_ BK405.out) hb) (below_step sU_ hb) ?_; clear HO_8 BK405 HB; intro HO_8 BK405 HB; clear hb))
     go_ret2
     exact ⟨_, eW_, rU_ HO_8.out, sU_⟩

mutual
def attestorref09_Words.j0 : Nat → List Int → List Int → Bool → Int → Int → Int → Option ((List (List Int)) × Int)
 | 0, _, _, _, _, _, _ => none
 | k + 1, x1, x2, x23, x416000, x416001, x416002 => if x23 = true then (some (([] : List (List Int)), 1)) else (if (x2.length : Int) > (wrap64 (Int.tdiv x416001 3)) then (some (([] : List (List Int)), 2)) else (attestorref09_Words.l0 k x1 x2 ([] : List Int) 0 x416000 x416001 x416002))
def attestorref09_Words.l0 : Nat → List Int → List Int → List Int → Int → Int → Int → Int → Option ((List (List Int)) × Int)
 | 0, _, _, _, _, _, _, _ => none
 | k + 1, x1, x2, x8, x9, x416000, x416001, x416002 => if x9 < (x1.length : Int) then (if 0 ≤ x9 then ((attestorref01_Reduce.f x416000 (rd x1 x9)).bind fun t419 => (if x8.length < 17592186044416 then (attestorref09_Words.l0 k x1 x2 (x8 ++ [t419]) (wrap64 (x9 + 1)) x416000 x416001 x416002) else (none))) else (none)) else (attestorref09_Words.l1 k x2 (([x8] : List (List Int))) 0 x416000 x416001 x416002)
def attestorref09_Words.l1 : Nat → List Int → List (List Int) → Int → Int → Int → Int → Option ((List (List Int)) × Int)
 | 0, _, _, _, _, _, _ => none
 | k + 1, x2, x10, x11, x416000, x416001, x416002 => if x11 < (x2.length : Int) then (if 0 ≤ x11 then (if x11 < (x10.length : Int) then ((attestorref09_Word.f k x416000 x416001 x416002 (rd_L1 x10 x11) (rd x2 x11)).bind fun bt428 => (if x10.length < 5864062014805 then ((attestorref09_Next.f k x416000 x416001 x416002).bind fun bt435 => (attestorref09_Words.l1 k x2 (x10 ++ [bt428.1]) (wrap64 (x11 + 1)) bt435.1 bt435.2.1 bt435.2.2.1)) else (none))) else (none)) else (none)) else (some (x10, 0))
end
def attestorref09_Words.f (k : Nat) (a0_0 : Int) (a0_1 : Int) (a0_2 : Int) (l1 : List Int) (l2 : List Int) : Option ((List (List Int)) × Int) := (attestorref05_Valid.f a0_0 a0_1 a0_2).bind fun t416 => (if t416 = true then ((attestorref05_Size.f a0_0 a0_1 a0_2).bind fun t417 => (attestorref09_Words.j0 k l1 l2 ((l1.length : Int) != t417) a0_0 a0_1 a0_2)) else (attestorref09_Words.j0 k l1 l2 true a0_0 a0_1 a0_2))
def attestorref09_Words.T9 : Bool × List (List Nat × List Nat) := (true, [([], []), ([], []), ([1], [1]), ([], []), ([], []), ([3, 4], [3, 4]), ([5], [5]), ([2, 6], [2, 6]), ([7], [7]), ([0, 8, 7], [0, 8]), ([9, 9, 0, 1, 2, 3, 4, 5, 6, 7, 8, 9], [0, 9])])
def attestorref09_Words.B9 : List Nat := [0, 0, 2, 0, 0, 24, 56, 126, 254, 511, 1023]
theorem attestorref09_Words.tab9 : rtab .any (opsOf Tryd.f28 9) = attestorref09_Words.T9 := by kernel_rfl
theorem attestorref09_Words.bits9 : waitsOk attestorref09_Words.T9.2 attestorref09_Words.B9 = true := by kernel_rfl
def attestorref09_Words.T14 : Bool × List (List Nat × List Nat) := (true, [([], []), ([], []), ([], []), ([1, 2], [1, 2]), ([3], [3]), ([], []), ([], []), ([5, 6], [5, 6]), ([7], [7]), ([0, 4, 8], [0, 4, 8]), ([9], [9]), ([10], [10]), ([10], [10]), ([11, 9, 0, 1, 2, 3, 4, 5, 6, 7, 8, 9, 10, 11], [11]), ([12, 13, 0, 1, 2, 3, 4, 5, 6, 7, 8, 9, 10, 11, 12, 13], [12])])
def attestorref09_Words.B14 : List Nat := [0, 0, 0, 6, 14, 0, 0, 96, 224, 511, 1023, 2047, 2047, 4095, 16383]
theorem attestorref09_Words.tab14 : rtab .any (opsOf Tryd.f28 14) = attestorref09_Words.T14 := by kernel_rfl
theorem attestorref09_Words.bits14 : waitsOk attestorref09_Words.T14.2 attestorref09_Words.B14 = true := by kernel_rfl
set_option maxHeartbeats 8000000 in
set_option maxRecDepth 100000 in
theorem attestorref09_Words.calls (k : Nat) (a0_0 : Int) (a0_1 : Int) (a0_2 : Int) (A1 : Option Addr) (c1 : Nat) (l1 : List Int) (A2 : Option Addr) (c2 : Nat) (l2 : List Int) (r1 : List (List Int)) (r2 : Int) (w : World) (hr1 : Kd.C (Kd.int .u64) w A1 l1.length l1) (hc1 : l1.length ≤ c1) (hr2 : Kd.C (Kd.int .u64) w A2 l2.length l2) (hc2 : l2.length ≤ c2) (h : attestorref09_Words.f k a0_0 a0_1 a0_2 l1 l2 = some (r1, r2)) :
  Calls Tryd.prog 28 #[.agg #[.int .i64 a0_0, .int .i64 a0_1, .int .u64 a0_2], .slice A1 l1.length c1, .slice A2 l2.length c2] w fun e w' => ∃ v0_ : Value, e = .returned (.tuple #[v0_, .int .i64 r2]) ∧ Kd.V (Kd.slice 22 (Kd.int .u64)) 33 w' w.heap.size (fun k_ => (w.heap.size ≤ k_)) v0_ r1 ∧ Below w.heap.size w w' := by
 have hu24 := Tryd.underlying24
 have HR1 := ak hr1
 have HC1 := ak hc1
 clear hr1 hc1
 have HR2 := ak hr2
 have HC2 := ak hc2
 clear hr2 hc2
 have HB := ak (Below.refl w.heap.size w)
 have H := h
 clear h
 unfold attestorref09_Words.f at H
 have HC4 := ak H
 clear H
 go_enter Tryd.func28, Tryd.ntmps28
 go_upto_region 1 with (first | ((with_reducible refine gate_dst (N := 3) rfl ?_); (try (refine gate_guard (by rfl) ?_; dsimp only)); refine bx_ 3 24 #[.int .i64 a0_0, .int .i64 a0_1, .int .u64 a0_2] ?_; intro gb415 hg w5 hbox hb; refine nx4_ (below_step (bU_ HB.out) hb) (hbox) ((hs_ hg (below_size (bU_ HB.out)))) ((hs_ hg (below_size (bU_ HB.out)))) ?_; clear HB; intro HB BK415 GW415 GE415; clear hb hbox hg))
 (try simp only [Act.put, s1_, s2_, s3_])
 go_cut [23] (fun v23 wc => ∃ (kq : Nat) (x23_3 : Bool), v23 = .bool x23_3 ∧ Aside0 (attestorref09_Words.j0 kq l1 l2 x23_3 a0_0 a0_1 a0_2 = some (r1, r2)) ∧ Aside0 (kq ≤ k) ∧ Aside0 (wc.heap[gb415]? = some (.cells #[.int .i64 a0_0, .int .i64 a0_1, .int .u64 a0_2] 24 (0, 0))) ∧ Aside0 (Below w.heap.size w wc))
 case first =>
  have H := HC4.out
  clear HC4
  revert H
  refine bd_ fun t416 A6 H => ?_
  by_cases c7 : t416 = true
  ·subst c7
   rw [if_pos rfl] at H
   revert H
   refine bd_ fun t417 A8 H => ?_
   have H' := ak H
   clear H
   have hcz9_0 := bc0_ BK415.out
   have hcz9_1 := bc1_ BK415.out
   have hcz9_2 := bc2_ BK415.out
   have hfz9_0 := blk_frozen BK415.out 0
   have hfz9_1 := blk_frozen BK415.out 1
   have hfz9_2 := blk_frozen BK415.out 2
   go_wp2_with (first | ((with_reducible refine gate_callee (f := 44) rfl ?_); refine gl_ (some 15) Tryd.func44 #[.agg #[.int .i64 a0_0, .int .i64 a0_1, .int .u64 a0_2]] ?_; (with_reducible refine (attestorref05_Valid.calls a0_0 a0_1 a0_2 true _ A6.out).mono ?_); rintro e w10 ⟨rfl, hb⟩; refine ⟨_, rfl, ?_⟩; refine nx2_ (blk_below (kU_ BK415.out) hb) (below_step sU_ hb) ?_; clear BK415 HB; intro BK415 HB; clear hb; have hcz11_0 := bc0_ BK415.out; have hcz11_1 := bc1_ BK415.out; have hcz11_2 := bc2_ BK415.out; have hfz11_0 := blk_frozen BK415.out 0; have hfz11_1 := blk_frozen BK415.out 1; have hfz11_2 := blk_frozen BK415.out 2) | (go_at_call 57; (with_reducible refine (attestorref05_Size.calls a0_0 a0_1 a0_2 t417 _ A8.out).mono ?_); rintro e w12 ⟨rfl, hb⟩; refine nx2_ (blk_below (kU_ BK415.out) hb) (below_step sU_ hb) ?_; clear BK415 HB; intro BK415 HB; clear hb))
   go_meet
   case rel => exact ⟨_, (((l1.length : Int) != t417)), gb_, H', ⟨by first | omega | exact Nat.le_refl _⟩, ⟨by (with_reducible repeat (first | refine blk_drewN ?_ _ | refine blk_drew ?_ | refine blk_alloc ?_ _)); exact BK415.out⟩, ⟨sU_⟩⟩
  replace c7 := Bool.eq_false_iff.mpr c7
  subst c7
  rw [if_neg (show ¬ (false = true) by decide)] at H
  have H' := ak H
  clear H
  have hcz13_0 := bc0_ BK415.out
  have hcz13_1 := bc1_ BK415.out
  have hcz13_2 := bc2_ BK415.out
  have hfz13_0 := blk_frozen BK415.out 0
  have hfz13_1 := blk_frozen BK415.out 1
  have hfz13_2 := blk_frozen BK415.out 2
  go_wp2_with (first | ((with_reducible refine gate_callee (f := 44) rfl ?_); refine gl_ (some 15) Tryd.func44 #[.agg #[.int .i64 a0_0, .int .i64 a0_1, .int .u64 a0_2]] ?_; (with_reducible refine (attestorref05_Valid.calls a0_0 a0_1 a0_2 false _ A6.out).mono ?_); rintro e w14 ⟨rfl, hb⟩; refine ⟨_, rfl, ?_⟩; refine nx2_ (blk_below (kU_ BK415.out) hb) (below_step sU_ hb) ?_; clear BK415 HB; intro BK415 HB; clear hb))
  go_meet
  case rel => exact ⟨_, (true), gb_, H', ⟨by first | omega | exact Nat.le_refl _⟩, ⟨by (with_reducible repeat (first | refine blk_drewN ?_ _ | refine blk_drew ?_ | refine blk_alloc ?_ _)); exact BK415.out⟩, ⟨sU_⟩⟩
 case rest =>
  clear HC4
  (try clear c1); (try clear c2); (try clear p2); (try clear c4); (try clear c7); (try clear hcz11_0); (try clear hcz11_1); (try clear hcz11_2); (try clear hcz13_0); (try clear hcz13_1); (try clear hcz13_2); (try clear hcz9_0); (try clear hcz9_1); (try clear hcz9_2); (try clear hfz11_0); (try clear hfz11_1); (try clear hfz11_2); (try clear hfz13_0); (try clear hfz13_1); (try clear hfz13_2); (try clear hfz9_0); (try clear hfz9_1); (try clear hfz9_2)
  obtain ⟨kq, x23_3, rfl, HA, HJ3, BK415, HB⟩ := hcut
  cases kq with
  | zero => exact absurd HA.out (by simp [attestorref09_Words.j0])
  | succ kj3 =>
   have H := HA.out
   clear HA
   simp only [attestorref09_Words.j0] at H
   by_cases c15 : x23_3 = true
   ·subst c15
    rw [if_pos rfl] at H
    simp only [Option.some.injEq, Prod.mk.injEq] at H
    obtain ⟨rfl, rfl⟩ := H
    go_wp2
    go_ret2
    exact ⟨_, eW_, Kd.N_V (base := 0) (by first | exact Kd.S_nil _ _ _ _ _ | exact Kd.N_nil _ _ _ _ _ | exact Kd.V_nil _ _ _ _ _ | exact Kd.Q_nil _ _ _ _ _ | exact Kd.R_nil _ _ _ _ _), sU_⟩
   replace c15 := Bool.eq_false_iff.mpr c15
   subst c15
   rw [if_neg (show ¬ (false = true) by decide)] at H
   by_cases c16 : (l2.length : Int) > (wrap64 (Int.tdiv a0_1 3))
   ·rw [if_pos c16] at H
    have c16b0 : decide ((wrap64 (Int.tdiv a0_1 3)) < (l2.length : Int)) = true := decide_eq_true c16
    clear c16
    simp only [Option.some.injEq, Prod.mk.injEq] at H
    obtain ⟨rfl, rfl⟩ := H
    have hcz17_0 := bc0_ BK415.out
    have hcz17_1 := bc1_ BK415.out
    have hcz17_2 := bc2_ BK415.out
    have hfz17_0 := blk_frozen BK415.out 0
    have hfz17_1 := blk_frozen BK415.out 1
    have hfz17_2 := blk_frozen BK415.out 2
    go_wp2
    go_ret2
    exact ⟨_, eW_, Kd.N_V (base := 0) (by first | exact Kd.S_nil _ _ _ _ _ | exact Kd.N_nil _ _ _ _ _ | exact Kd.V_nil _ _ _ _ _ | exact Kd.Q_nil _ _ _ _ _ | exact Kd.R_nil _ _ _ _ _), sU_⟩
   rw [if_neg c16] at H
   have c16b0 : decide ((wrap64 (Int.tdiv a0_1 3)) < (l2.length : Int)) = false := decide_eq_false c16
   clear c16
   have H' := ak H
   clear H
   have hcz18_0 := bc0_ BK415.out
   have hcz18_1 := bc1_ BK415.out
   have hcz18_2 := bc2_ BK415.out
   have hfz18_0 := blk_frozen BK415.out 0
   have hfz18_1 := blk_frozen BK415.out 1
   have hfz18_2 := blk_frozen BK415.out 2
   go_wp2
   go_loopg [8, 9] kj3 (fun kq v8 v9 w' => ∃ (x8_2 : List Int) (x9_2 : Int), v9 = .int .i64 x9_2 ∧ Aside0 (attestorref09_Words.l0 kq l1 l2 x8_2 x9_2 a0_0 a0_1 a0_2 = some (r1, r2)) ∧ Aside0 (kq ≤ kj3) ∧ Aside0 (Kd.R (Kd.int .u64) 22 w' w.heap.size (fun k_ => (w.heap.size ≤ k_)) v8 x8_2) ∧ Aside0 (w'.heap[gb415]? = some (.cells #[.int .i64 a0_0, .int .i64 a0_1, .int .u64 a0_2] 24 (0, 0))) ∧ Aside0 (Below w.heap.size w w'))
   case atStart => exact ⟨(([] : List Int)), (0), gb_, H', ⟨Nat.le_refl _⟩, ⟨by first | exact Kd.R_nil _ _ _ _ _ | exact Kd.N_nil _ _ _ _ _ | exact Kd.V_nil _ _ _ _ _ | exact Kd.Q_nil _ _ _ _ _ | exact Kd.S_nil _ _ _ _ _⟩, ⟨by (with_reducible repeat (first | refine blk_drewN ?_ _ | refine blk_drew ?_ | refine blk_alloc ?_ _)); exact BK415.out⟩, ⟨sU_⟩⟩
   case round =>
    clear H'
    (try clear c1); (try clear c2); (try clear p2); (try clear c4); (try clear p6); (try clear c7); (try clear c15); (try clear c16); (try clear c16b0); (try clear hcz11_0); (try clear hcz11_1); (try clear hcz11_2); (try clear hcz13_0); (try clear hcz13_1); (try clear hcz13_2); (try clear hcz17_0); (try clear hcz17_1); (try clear hcz17_2); (try clear hcz18_0); (try clear hcz18_1); (try clear hcz18_2); (try clear hcz9_0); (try clear hcz9_1); (try clear hcz9_2); (try clear hfz11_0); (try clear hfz11_1); (try clear hfz11_2); (try clear hfz13_0); (try clear hfz13_1); (try clear hfz13_2); (try clear hfz17_0); (try clear hfz17_1); (try clear hfz17_2); (try clear hfz18_0); (try clear hfz18_1); (try clear hfz18_2); (try clear hfz9_0); (try clear hfz9_1); (try clear hfz9_2)
    obtain ⟨x8_2, x9_2, rfl, HA, HK2, HO_8, BK415, HB⟩ := hrel
    cases gk with
    | zero => exact absurd HA.out (by simp [attestorref09_Words.l0])
    | succ k2 =>
     have H := HA.out
     clear HA
     simp only [attestorref09_Words.l0] at H
     by_cases c19 : x9_2 < (l1.length : Int)
     ·rw [if_pos c19] at H
      have c19b0 := decide_eq_true c19
      clear c19
      obtain ⟨c20, H⟩ : (0 ≤ x9_2) ∧ _ := it_ H
      have c20b0 := decide_eq_true c20
      clear c20
      revert H
      refine bd_ fun t419 A21 H => ?_
      obtain ⟨c22, H⟩ : (x8_2.length < 17592186044416) ∧ _ := it_ H
      have LMc22 := ak c22
      clear c22
      obtain ⟨y420, hy420⟩ : ∃ y_ : List Int, y_ = (x8_2 ++ [t419]) := ⟨_, rfl⟩
      first | rw [Option.bind_some, ← hy420] at H | rw [← hy420] at H
      have Ny420 := ak hy420
      clear hy420
      have H' := ak H
      clear H
      try go_wp2
      refine nx3_ (R_drew HO_8.out) (blk_drew BK415.out) (below_drew1 HB.out) ?_
      clear HO_8 BK415 HB
      intro HO_8 BK415 HB
      have p418 : 0 ≤ (x9_2 : Int) := od_
      have q418 : x9_2 < (l1.length : Int) := od_
      obtain ⟨ad418, e418, hx418_0⟩ := Kd.at_int HR1.out x9_2 p418 q418
      have hw418_0 := hx418_0
      cases e418
      replace hx418_0 := (HB.out.cell (World.block_lt_of_cell? w _ hx418_0)).trans hx418_0
      replace p418 := eq_true p418
      replace q418 := eq_true q418
      refine start_ (n := 11) (S := fun w' => w'.cell? ⟨gb415, 0, none⟩ = some (.int .i64 a0_0) ∧ w'.cell? ⟨gb415, 1, none⟩ = some (.int .i64 a0_1) ∧ w'.cell? ⟨gb415, 2, none⟩ = some (.int .u64 a0_2) ∧ w'.cell? (ad418.add (x9_2).toNat) = some (.int .u64 (rd l1 x9_2))) (ds := []) (bv 11 0) (by kernel_rfl) rfl rfl ⟨bc0_ BK415.out, bc1_ BK415.out, bc2_ BK415.out, ((HB.out.cell (World.block_lt_of_cell? w _ hw418_0)).trans hw418_0)⟩ (fun hHeld => ?_); refine with_tabW attestorref09_Words.tab9 attestorref09_Words.bits9 (fun HT_ HW_ => ?_)
      generalize wr.drew = w23 at HO_8 BK415 HB hx418_0 hHeld ⊢
      refine pq_ 0 36 11 1 HT_.out ?_
      refine pq_ 1 37 11 3 HT_.out ?_
      refine pq_ 3 39 11 11 HT_.out ?_
      refine pq_ 4 40 11 27 HT_.out ?_
      refine pq_ 5 41 11 59 HT_.out ?_
      refine tq_ 2 38 11 63 HT_.out HW_.out hHeld ?_
      refine tq_ 6 42 11 127 HT_.out HW_.out hHeld ?_
      refine oq_ 7 43 11 255 HT_.out fun K hK => ?_
      refine gs_ Tryd.func47 #[.int .i64 a0_0, .int .u64 (rd l1 x9_2)] ?_
      with_reducible refine (attestorref01_Reduce.calls a0_0 (rd l1 x9_2) t419 _ A21.out).mono ?_
      rintro e w' ⟨rfl, ⟨nd, rfl⟩⟩
      refine ⟨_, rfl, ?_⟩
      refine hK.out _ _ ⟨bc0_ BK415.out, bc1_ BK415.out, bc2_ BK415.out, ((HB.out.cell (World.block_lt_of_cell? w _ hw418_0)).trans hw418_0)⟩ (fun hHeld => ?_)
      clear hK K
      refine norm_ (a' := ?_) ?_ ?_
      rotate_left
      ·show Act.put _ (some 43) _ = _
       simp only [Act.put, s1_, s2_, s3_, i64_w, i32_w]
       rfl
      refine oq_ 8 44 11 511 HT_.out fun K hK => ?_
      refine value_ (w1 := ?_) (v := ?_) (by rfl) rfl ?_ ?_
      rotate_left 2
      ·go_simp
       constructor
       ·rfl
       rfl
      refine hK.out _ _ ⟨(blk_cell (blk_alloc BK415.out _) 0).trans rfl, (blk_cell (blk_alloc BK415.out _) 1).trans rfl, (blk_cell (blk_alloc BK415.out _) 2).trans rfl, (World.cell?_alloc_lt _ _ _ (World.block_lt_of_cell? _ _ (((HB.out.cell (World.block_lt_of_cell? w _ hw418_0)).trans hw418_0)))).trans (((HB.out.cell (World.block_lt_of_cell? w _ hw418_0)).trans hw418_0))⟩ (fun hHeld => ?_)
      clear hK K
      refine norm_ (a' := ?_) ?_ ?_
      rotate_left
      ·show Act.put _ (some 44) _ = _
       simp only [Act.put, s1_, s2_, s3_, i64_w, i32_w]
       rfl
      refine oq_ 9 45 11 1023 HT_.out fun K hK => ?_
      refine Kd.R_append_step (Kd.int .u64) (w0 := w) w.heap.size (by rfl) (.tmp 36) (.tmp 44) 33 22 (.int .u64 0) 8 rfl Tryd.underlying33 info22 rfl (by decide) (by omega) u8 x8_2 t419 [.int .u64 t419] (fun k_ => (w.heap.size ≤ k_)) (fun _ => False) rfl rfl ?aP (fun _ hk => hk.elim) ?aF ?aO ?aB ?aS ?aL ?_
      (case aP => exact rfl)
      (case aB => exact sU_)
      (case aF => exact (fun k_ hk => (Nat.le_trans (below_size sU_) hk)))
      (case aO => exact (rU_ HO_8.out))
      (case aS => exact (below_size sU_))
      (case aL => have := LMc22.out; omega)
      intro v421 w24 ho hb hg hat
      rw [← Ny420.out] at ho
      refine nx3_ (blk_grown (g := gb415) (o := .cells #[.int .i64 a0_0, .int .i64 a0_1, .int .u64 a0_2] 24 (0, 0)) (kU_ BK415.out) hg (Kd.R_ne HO_8.out BK415.out (by decide))) (hb) (ho) ?_
      clear BK415 HB HO_8
      intro BK415 HB HO422
      clear ho hb hg hat
      refine hK.out _ _ ⟨bc0_ BK415.out, bc1_ BK415.out, bc2_ BK415.out, ((HB.out.cell (World.block_lt_of_cell? w _ hw418_0)).trans hw418_0)⟩ (fun hHeld => ?_)
      clear hK K
      refine norm_ (a' := ?_) ?_ ?_
      rotate_left
      ·show Act.put _ (some 45) _ = _
       simp only [Act.put, s1_, s2_, s3_, i64_w, i32_w]
       rfl
      refine pq_ 10 8 11 2047 HT_.out ?_
      refine done_ (done_of HT_.out (by kernel_rfl)) ?_
      try go_wp2
      go_roundg k2
      case measure => have := HJ3.out; have := HK2.out; omega
      case rel => exact ⟨(y420), (wrap64 (x9_2 + 1)), gb_, H', ⟨by have := HJ3.out; have := HK2.out; omega⟩, ⟨rU_ HO422.out⟩, ⟨by (with_reducible repeat (first | refine blk_drewN ?_ _ | refine blk_drew ?_ | refine blk_alloc ?_ _)); exact BK415.out⟩, ⟨sU_⟩⟩
     rw [if_neg c19] at H
     have c19b0 := decide_eq_false c19
     clear c19
     obtain ⟨y423, hy423⟩ : ∃ y_ : List (List Int), y_ = (([x8_2] : List (List Int))) := ⟨_, rfl⟩
     replace H : (attestorref09_Words.l1 k2 l2 y423 0 a0_0 a0_1 a0_2) = some (r1, r2) := by first | (rw [hy423]; with_reducible exact H) | (have H2_ := (Option.bind_some _ _).symm.trans H; rw [hy423]; with_reducible exact H2_) | (have H2_ := (Option.bind_some _ _).symm.trans H; with_reducible exact H2_) | with_reducible exact H | (rw [hy423]; exact H) | exact H
     have Ny423 := ak hy423
     clear hy423
     have H' := ak H
     clear H
     obtain ⟨Ao25, co25, eo25⟩ := R_slice HO_8.out
     subst eo25
     go_wp2_with (first | ((with_reducible refine gate_dst (N := 47) rfl ?_); (try (refine gate_guard (by rfl) ?_; dsimp only)); refine Kd.N_lit (Kd.slice 22 (Kd.int .u64)) _ 33 ?hg (N' := 47) ?hd (xs := ([x8_2] : List (List Int))) (inner := [.slice Ao25 x8_2.length co25]) (ok := (fun k_ => (w.heap.size ≤ k_) ∧ k_ ≠ gb415)) (okp := (fun k_ => (w.heap.size ≤ k_) ∧ k_ ≠ gb415)) ?hr ?hp (fun _ hk => hk) ((show ∀ k_, wr.heap.size ≤ k_ → (fun k_ => (w.heap.size ≤ k_) ∧ k_ ≠ gb415) k_ from fun k_ hk => ⟨(Nat.le_trans (below_size sU_) hk), freshB (kU_ BK415.out) k_ hk⟩) _ (Nat.le_refl _)) (Below.refl _ _) (Nat.le_refl _) (by simp) ?_; (case hd => rfl); (case hg => rfl); (case hr => first | (go_simp; done) | (go_simp; rfl)); (case hp => exact (Reps.one (show Kd.FK (Kd.slice 22 (Kd.int .u64)) _ _ x8_2 [.slice Ao25 x8_2.length co25] from (Kd.FK_slice_mk (R_reads' (R_mono (ok' := (fun k_ => (w.heap.size ≤ k_) ∧ k_ ≠ gb415)) (R_types (HO_8.out) BK415.out (by decide)) (fun k_ hk => ⟨hk.1, hk.2⟩))).2.1 (Kd.R_F (R_mono (ok' := (fun k_ => (w.heap.size ≤ k_) ∧ k_ ≠ gb415)) (R_types (HO_8.out) BK415.out (by decide)) (fun k_ hk => ⟨hk.1, hk.2⟩))))) (Reps.none _ _))); intro v424 w26 ho27 hb hg_ hnew_; clear hg_ hnew_; (first | rw [← Ny423.out] at ho27 | (simp only [Int.reduceToNat] at ho27; rw [← Ny423.out] at ho27)); refine nx3_ (Kd.N_lower ho27 (below_size sU_)) (blk_below (kU_ BK415.out) hb) (below_step sU_ hb) ?_; clear BK415 HB HO_8; intro HO425 BK415 HB; clear hb ho27))
     go_loopg [10, 11] k2 (fun kq v10 v11 w' => ∃ (x10_3 : List (List Int)) (x11_3 : Int) (x416000_3 : Int) (x416001_3 : Int) (x416002_3 : Int), v11 = .int .i64 x11_3 ∧ Aside0 (attestorref09_Words.l1 kq l2 x10_3 x11_3 x416000_3 x416001_3 x416002_3 = some (r1, r2)) ∧ Aside0 (kq ≤ k2) ∧ Aside0 (Kd.N (Kd.slice 22 (Kd.int .u64)) 33 w' w.heap.size (fun k_ => (w.heap.size ≤ k_) ∧ k_ ≠ gb415) v10 x10_3) ∧ Aside0 (w'.heap[gb415]? = some (.cells #[.int .i64 x416000_3, .int .i64 x416001_3, .int .u64 x416002_3] 24 (0, 0))) ∧ Aside0 (Below w.heap.size w w'))
     case atStart => exact ⟨(y423), (0), (a0_0), (a0_1), (a0_2), gb_, H', ⟨Nat.le_refl _⟩, ⟨by (with_reducible repeat (first | apply Kd.N_alloc | apply Kd.N_drewN | apply Kd.N_drew)); exact HO425.out⟩, ⟨by (with_reducible repeat (first | refine blk_drewN ?_ _ | refine blk_drew ?_ | refine blk_alloc ?_ _)); exact BK415.out⟩, ⟨sU_⟩⟩
     case round =>
      clear H'
      (try clear c1); (try clear c2); (try clear p2); (try clear c4); (try clear p4); (try clear q4); (try clear hx4); (try clear p6); (try clear c7); (try clear c15); (try clear c16); (try clear c16b0); (try clear c19); (try clear c19b0); (try clear c20); (try clear c20b0); (try clear c22); (try clear hcz11_0); (try clear hcz11_1); (try clear hcz11_2); (try clear hcz13_0); (try clear hcz13_1); (try clear hcz13_2); (try clear hcz17_0); (try clear hcz17_1); (try clear hcz17_2); (try clear hcz18_0); (try clear hcz18_1); (try clear hcz18_2); (try clear hcz9_0); (try clear hcz9_1); (try clear hcz9_2); (try clear hfz11_0); (try clear hfz11_1); (try clear hfz11_2); (try clear hfz13_0); (try clear hfz13_1); (try clear hfz13_2); (try clear hfz17_0); (try clear hfz17_1); (try clear hfz17_2); (try clear hfz18_0); (try clear hfz18_1); (try clear hfz18_2); (try clear hfz9_0); (try clear hfz9_1); (try clear hfz9_2); (try clear hx418_0); (try clear p418); (try clear q418)
      obtain ⟨x10_3, x11_3, x416000_3, x416001_3, x416002_3, rfl, HA, HK3, HO_10, BK415, HB⟩ := hrel
      cases gk with
      | zero => exact absurd HA.out (by simp [attestorref09_Words.l1])
      | succ k3 =>
       have H := HA.out
       clear HA
       simp only [attestorref09_Words.l1] at H
       by_cases c28 : x11_3 < (l2.length : Int)
       ·rw [if_pos c28] at H
        have c28b0 := decide_eq_true c28
        clear c28
        obtain ⟨c29, H⟩ : (0 ≤ x11_3) ∧ _ := it_ H
        have c29b0 := decide_eq_true c29
        clear c29
        obtain ⟨c30, H⟩ : (x11_3 < (x10_3.length : Int)) ∧ _ := it_ H
        have c30b0 := decide_eq_true c30
        clear c30
        revert H
        refine bd2_ fun t428 t431 A31 H => ?_
        try dsimp only at H
        obtain ⟨c32, H⟩ : (x10_3.length < 5864062014805) ∧ _ := it_ H
        have LMc32 := ak c32
        clear c32
        obtain ⟨y432, hy432⟩ : ∃ y_ : List (List Int), y_ = (x10_3 ++ [t428]) := ⟨_, rfl⟩
        replace H : ((attestorref09_Next.f k3 x416000_3 x416001_3 x416002_3).bind fun bt435 => (attestorref09_Words.l1 k3 l2 y432 (wrap64 (x11_3 + 1)) bt435.1 bt435.2.1 bt435.2.2.1)) = some (r1, r2) := by first | (rw [hy432]; with_reducible exact H) | (have H2_ := (Option.bind_some _ _).symm.trans H; rw [hy432]; with_reducible exact H2_) | (have H2_ := (Option.bind_some _ _).symm.trans H; with_reducible exact H2_) | with_reducible exact H | (rw [hy432]; exact H) | exact H
        have Ny432 := ak hy432
        clear hy432
        revert H
        refine bd4_ fun t435 t436 t437 t438 A33 H => ?_
        try dsimp only at H
        have H' := ak H
        clear H
        try go_wp2
        refine nx3_ (Kd.N_drew HO_10.out) (blk_drew BK415.out) (below_drew1 HB.out) ?_
        clear HO_10 BK415 HB
        intro HO_10 BK415 HB
        obtain ⟨Ao35, co35, eo35⟩ := Kd.N_slice HO_10.out
        (first | subst eo35 | (injection eo35 with f1_ f2_ f3_; have f4_ := f1_.symm; have f5_ := f3_.symm; clear f1_ f2_ f3_; subst f4_; subst f5_))
        have p426 : 0 ≤ (x11_3 : Int) := od_
        have q426 : x11_3 < (x10_3.length : Int) := od_
        obtain ⟨ad426, A426_0, c426_0, e426, hx426_0, hl426_0, hi426_0⟩ := at_L1 (Kd.N_reads' HO_10.out).2.2 x11_3 p426 q426
        cases e426
        obtain ⟨ce426, hce426, hMe426, hcc426⟩ := Kd.N_get HO_10.out [] x11_3 p426 (by first | exact q426 | exact od_ | (have e_ := (Kd.N_reads' HO_10.out).1; omega))
        obtain ⟨ua426_0, uc426_0, rfl, ul426_0, ge426_0⟩ := Kd.FK_slice_open hMe426
        have hv426_0 := hcc426 0 _ rfl
        rw [Nat.add_zero, show ((Kd.slice 22 (Kd.int .u64))).sz = 1 from rfl, Nat.mul_one] at hv426_0
        replace hv426_0 := Option.some.inj (hv426_0.symm.trans hx426_0)
        injection hv426_0 with hva_ hvn_ hvc_
        rw [hva_] at ge426_0
        rw [hvc_] at ul426_0
        have HL426_0 := ak (show Kd.V (Kd.int .u64) 22 _ w.heap.size _ _ (rd_L1 x10_3 x11_3) from V_mk ul426_0 ge426_0)
        clear hva_ hvn_ hvc_ ge426_0 ul426_0
        clear hcc426 hce426
        have HR426_0 := ak hi426_0
        have HC426_0 := ak hl426_0
        clear hi426_0 hl426_0
        replace p426 := eq_true p426
        replace q426 := eq_true q426
        have p427 : 0 ≤ (x11_3 : Int) := od_
        have q427 : x11_3 < (l2.length : Int) := od_
        obtain ⟨ad427, e427, hx427_0⟩ := Kd.at_int HR2.out x11_3 p427 q427
        have hw427_0 := hx427_0
        cases e427
        replace hx427_0 := (HB.out.cell (World.block_lt_of_cell? w _ hx427_0)).trans hx427_0
        replace p427 := eq_true p427
        replace q427 := eq_true q427
        refine start_ (n := 15) (S := fun w' => w'.cell? ⟨gb415, 0, none⟩ = some (.int .i64 x416000_3) ∧ w'.cell? ⟨gb415, 1, none⟩ = some (.int .i64 x416001_3) ∧ w'.cell? ⟨gb415, 2, none⟩ = some (.int .u64 x416002_3) ∧ w'.cell? (ad426.add (x11_3).toNat) = some (.slice A426_0 (rd_L1 x10_3 x11_3).length c426_0) ∧ w'.cell? (ad427.add (x11_3).toNat) = some (.int .u64 (rd l2 x11_3))) (ds := []) (bv 15 0) (by kernel_rfl) rfl rfl ⟨bc0_ BK415.out, bc1_ BK415.out, bc2_ BK415.out, hx426_0, ((HB.out.cell (World.block_lt_of_cell? w _ hw427_0)).trans hw427_0)⟩ (fun hHeld => ?_); refine with_tabW attestorref09_Words.tab14 attestorref09_Words.bits14 (fun HT_ HW_ => ?_)
        generalize wr.drew = w34 at HO_10 BK415 HB HL426_0 HR426_0 hx426_0 hx427_0 hHeld ⊢
        refine pq_ 1 56 15 2 HT_.out ?_
        refine pq_ 2 57 15 6 HT_.out ?_
        refine pq_ 3 58 15 14 HT_.out ?_
        refine pq_ 5 60 15 46 HT_.out ?_
        refine pq_ 6 61 15 110 HT_.out ?_
        refine pq_ 7 62 15 238 HT_.out ?_
        refine tq_ 0 55 15 239 HT_.out HW_.out hHeld ?_
        refine tq_ 4 59 15 255 HT_.out HW_.out hHeld ?_
        refine tq_ 8 63 15 511 HT_.out HW_.out hHeld ?_
        refine oq_ 9 64 15 1023 HT_.out fun K hK => ?_
        refine gs_ Tryd.func26 #[.agg #[.int .i64 x416000_3, .int .i64 x416001_3, .int .u64 x416002_3], .slice A426_0 (rd_L1 x10_3 x11_3).length c426_0, .int .u64 (rd l2 x11_3)] ?_
        with_reducible refine (attestorref09_Word.calls k3 x416000_3 x416001_3 x416002_3 _ _ (rd_L1 x10_3 x11_3) (rd l2 x11_3) t428 t431 _ ?side1 ?side2 A31.out).mono ?_
        (case side1 => repeat (first | exact (by repeat (first | (with_reducible exact HR426_0.out) | (with_reducible refine Kd.C_alloc ?_ _) | (with_reducible refine Kd.C_drewN ?_ _) | (with_reducible refine Kd.C_drew ?_) | exact HR426_0.out)) | (with_reducible refine Kd.C_alloc ?_ _) | (with_reducible refine Kd.C_drewN ?_ _) | (with_reducible refine Kd.C_drew ?_)))
        (case side2 => exact HC426_0.out)
        rintro e w36 ⟨v429, rfl, ho0, hb⟩
        have HS3_ := (hb.cell (World.block_lt_of_cell? _ _ (hHeld.2.2.2.1))).trans (hHeld.2.2.2.1)
        refine ⟨_, rfl, ?_⟩
        refine nx6_ (Kd.N_elder' (by (with_reducible repeat (first | apply Kd.N_alloc | apply Kd.N_drewN | apply Kd.N_drew)); exact HO_10.out) (R_base ho0) hb) (V_elder' (vU_ HL426_0.out) (R_base ho0) hb) (R_lower (R_newM (M := fun k_ => (w.heap.size ≤ k_)) ho0 (below_size sU_) (fun k_ h_ => h_)) (below_size sU_)) (blk_below (kU_ BK415.out) hb) (C_below (by repeat (first | (with_reducible exact HR426_0.out) | (with_reducible refine Kd.C_alloc ?_ _) | (with_reducible refine Kd.C_drewN ?_ _) | (with_reducible refine Kd.C_drew ?_) | exact HR426_0.out)) hb) (below_step sU_ hb) ?_
        clear HO_10 HL426_0 BK415 HR426_0 HB
        intro HO_10 HL426_0 HO430 BK415 HR426_0 HB
        (try clear hb)
        (try clear hb2)
        (try clear hk)
        (try clear hi)
        (try clear ho0)
        refine hK.out _ _ ⟨bc0_ BK415.out, bc1_ BK415.out, bc2_ BK415.out, HS3_, ((HB.out.cell (World.block_lt_of_cell? w _ hw427_0)).trans hw427_0)⟩ (fun hHeld => ?_)
        clear hK K
        refine norm_ (a' := ?_) ?_ ?_
        rotate_left
        ·show Act.put _ (some 64) _ = _
         simp only [Act.put, s1_, s2_, s3_, i64_w, i32_w]
         rfl
        refine pq_ 10 54 15 2047 HT_.out ?_
        refine pq_ 11 65 15 4095 HT_.out ?_
        refine pq_ 12 66 15 8191 HT_.out ?_
        refine pq_ 13 12 15 16383 HT_.out ?_
        refine pq_ 14 13 15 32767 HT_.out ?_
        refine done_ (done_of HT_.out (by kernel_rfl)) ?_
        obtain ⟨Ao38, co38, eo38⟩ := R_slice HO430.out
        subst eo38
        try go_wp2_with (first | ((with_reducible refine gate_builtin (b := .append) (xs := #[.tmp 67, .tmp 69]) rfl ?_); (try (refine gate_guard (by rfl) ?_; dsimp only)); at_builtin; refine Kd.N_append (Kd.slice 22 (Kd.int .u64)) (w0 := w) w.heap.size rfl (.tmp 67) (.tmp 69) 46 33 (.slice none 0 0) 24 rfl Tryd.underlying46 info33 rfl (by decide) (by omega) (.slice (some ad426) x10_3.length co35) x10_3 t428 [.slice Ao38 t428.length co38] (fun k_ => (w.heap.size ≤ k_) ∧ k_ ≠ gb415) (fun k_ => ((fun k_ => (w.heap.size ≤ k_) ∧ k_ ≠ gb415)) k_ ∧ some k_ ≠ (.slice (some ad426) x10_3.length co35 : Value).ownBlock) rfl rfl ?aP (fun _ hk => hk) ?aF ?aO ?aB ?aS ?aL ?_; (case aP => exact (Kd.FK_slice_mk (R_reads' (R_mono (ok' := (fun k_ => ((fun k_ => (w.heap.size ≤ k_) ∧ k_ ≠ gb415)) k_ ∧ some k_ ≠ (.slice (some ad426) x10_3.length co35 : Value).ownBlock)) (R_types (Kd.R_apart' (HO430.out) (Kd.N_typed HO_10.out) (by decide)) BK415.out (by decide)) (fun k_ hk => ⟨⟨hk.1.1.1, hk.2⟩, hk.1.2⟩))).2.1 (Kd.R_F (R_mono (ok' := (fun k_ => ((fun k_ => (w.heap.size ≤ k_) ∧ k_ ≠ gb415)) k_ ∧ some k_ ≠ (.slice (some ad426) x10_3.length co35 : Value).ownBlock)) (R_types (Kd.R_apart' (HO430.out) (Kd.N_typed HO_10.out) (by decide)) BK415.out (by decide)) (fun k_ hk => ⟨⟨hk.1.1.1, hk.2⟩, hk.1.2⟩))))); (case aB => exact sU_); (case aF => exact (fun k_ hk => ⟨(Nat.le_trans (below_size sU_) hk), freshB (kU_ BK415.out) k_ hk⟩)); (case aO => exact (by (with_reducible repeat (first | apply Kd.N_alloc | apply Kd.N_drewN | apply Kd.N_drew)); exact Kd.N_mono HO_10.out (fun _ hk => ⟨hk.1.1, hk.1.2⟩))); (case aS => exact (below_size sU_)); (case aL => have := LMc32.out; omega); intro v433 w37 ho hb hg hat; rw [← Ny432.out] at ho; refine nx4_ (blk_grown (g := gb415) (o := .cells #[.int .i64 x416000_3, .int .i64 x416001_3, .int .u64 x416002_3] 24 (0, 0)) (kU_ BK415.out) hg (Kd.N_ne HO_10.out BK415.out (by decide))) (Kd.V_afterv (ok := (fun k_ => (w.heap.size ≤ k_) ∧ some k_ ≠ (.slice Ao38 t428.length co38 : Value).ownBlock ∧ k_ ≠ gb415)) (by (with_reducible repeat (first | apply Kd.V_alloc | apply Kd.V_drewN | apply V_drew)); exact V_mono HL426_0.out (fun _ hk => ⟨⟨hk.1.1.1, ⟨hk.2, hk.1.1.2⟩⟩, hk.1.2⟩)) hg hat) (hb) (ho) ?_; clear BK415 HL426_0 HB HO_10 HO430; intro BK415 HL426_0 HB HO434; clear ho hb hg hat; have hcz39_0 := bc0_ BK415.out; have hcz39_1 := bc1_ BK415.out; have hcz39_2 := bc2_ BK415.out; have hfz39_0 := blk_frozen BK415.out 0; have hfz39_1 := blk_frozen BK415.out 1; have hfz39_2 := blk_frozen BK415.out 2) | ((with_reducible refine gate_callee (f := 11) rfl ?_); refine gl_ (some 73) Tryd.func11 #[.agg #[.int .i64 x416000_3, .int .i64 x416001_3, .int .u64 x416002_3]] ?_; (with_reducible refine (attestorref09_Next.calls k3 x416000_3 x416001_3 x416002_3 t435 t436 t437 t438 _ A33.out).mono ?_); rintro e w40 ⟨rfl, hb⟩; refine ⟨_, rfl, ?_⟩; refine nx4_ (V_below (vU_ HL426_0.out) hb) (Kd.N_below (by (with_reducible repeat (first | apply Kd.N_alloc | apply Kd.N_drewN | apply Kd.N_drew)); exact HO434.out) hb) (blk_below (kU_ BK415.out) hb) (below_step sU_ hb) ?_; clear HL426_0 HO434 BK415 HB; intro HL426_0 HO434 BK415 HB; clear hb; have hcz41_0 := bc0_ BK415.out; have hcz41_1 := bc1_ BK415.out; have hcz41_2 := bc2_ BK415.out; have hfz41_0 := blk_frozen BK415.out 0; have hfz41_1 := blk_frozen BK415.out 1; have hfz41_2 := blk_frozen BK415.out 2))
        go_roundg k3
        case measure => have := HJ3.out; have := HK2.out; have := HK3.out; omega
        case rel => exact ⟨(y432), (wrap64 (x11_3 + 1)), (t435), (t436), (t437), gb_, H', ⟨by have := HJ3.out; have := HK2.out; have := HK3.out; omega⟩, ⟨by (with_reducible repeat (first | apply Kd.N_alloc | apply Kd.N_drewN | apply Kd.N_drew)); exact Kd.N_mono (Kd.N_far (p := ⟨gb415, 2, none⟩) (Kd.N_far (p := ⟨gb415, 1, none⟩) (Kd.N_far (p := ⟨gb415, 0, none⟩) (Kd.N_mono HO434.out (fun k_ hk => (⟨hk, hk.2⟩ : _ ∧ k_ ≠ gb415))) (fun _ hk => hk.2) (.int .i64 t435)) (fun _ hk => hk.2) (.int .i64 t436)) (fun _ hk => hk.2) (.int .u64 t437)) (fun _ hk => ⟨hk.1.1, hk.1.2⟩)⟩, ⟨by (with_reducible repeat (first | refine blk_drewN ?_ _ | refine blk_drew ?_ | refine blk_alloc ?_ _)); refine blk_put (cs := #[.int .i64 t435, .int .i64 t436, .int .u64 x416002_3]) ?_ 2 _ rfl; (with_reducible repeat (first | refine blk_drewN ?_ _ | refine blk_drew ?_ | refine blk_alloc ?_ _)); refine blk_put (cs := #[.int .i64 t435, .int .i64 x416001_3, .int .u64 x416002_3]) ?_ 1 _ rfl; (with_reducible repeat (first | refine blk_drewN ?_ _ | refine blk_drew ?_ | refine blk_alloc ?_ _)); refine blk_put (cs := #[.int .i64 x416000_3, .int .i64 x416001_3, .int .u64 x416002_3]) ?_ 0 _ rfl; (with_reducible repeat (first | refine blk_drewN ?_ _ | refine blk_drew ?_ | refine blk_alloc ?_ _)); exact BK415.out⟩, ⟨sU_⟩⟩
       rw [if_neg c28] at H
       have c28b0 := decide_eq_false c28
       clear c28
       simp only [Option.some.injEq, Prod.mk.injEq] at H
       obtain ⟨rfl, rfl⟩ := H
       go_wp2
       go_ret2
       exact ⟨_, eW_, Kd.N_V (by (with_reducible repeat (first | apply Kd.N_alloc | apply Kd.N_drewN | apply Kd.N_drew)); exact Kd.N_mono HO_10.out (fun _ hk => hk.1)), sU_⟩

def attestorref01_Same.l0 : Nat → List Int → List Int → Int → Option (Bool)
 | 0, _, _, _ => none
 | k + 1, x0, x1, x5 => if x5 < (x0.length : Int) then (if 0 ≤ x5 then (if x5 < (x1.length : Int) then (if (rd x0 x5) = (rd x1 x5) then (attestorref01_Same.l0 k x0 x1 (wrap64 (x5 + 1))) else (some false)) else (none)) else (none)) else (some true)
def attestorref01_Same.f (k : Nat) (l0 : List Int) (l1 : List Int) : Option (Bool) := if (l0.length : Int) = (l1.length : Int) then (attestorref01_Same.l0 k l0 l1 0) else (some false)
set_option maxHeartbeats 8000000 in
set_option maxRecDepth 100000 in
theorem attestorref01_Same.calls (k : Nat) (A0 : Option Addr) (c0 : Nat) (l0 : List Int) (A1 : Option Addr) (c1 : Nat) (l1 : List Int) (r : Bool) (w : World) (hr0 : Kd.C (Kd.int .u64) w A0 l0.length l0) (hc0 : l0.length ≤ c0) (hr1 : Kd.C (Kd.int .u64) w A1 l1.length l1) (hc1 : l1.length ≤ c1) (h : attestorref01_Same.f k l0 l1 = some r) :
  Calls Tryd.prog 31 #[.slice A0 l0.length c0, .slice A1 l1.length c1] w fun e w' => e = .returned (.bool r) ∧ Drawn0 w w' := by
 have HR0 := ak hr0
 have HC0 := ak hc0
 clear hr0 hc0
 have HR1 := ak hr1
 have HC1 := ak hc1
 clear hr1 hc1
 have H : (if (l0.length : Int) = (l1.length : Int) then (attestorref01_Same.l0 k l0 l1 0) else (some false)) = some r := h
 clear h
 by_cases c3 : (l0.length : Int) = (l1.length : Int)
 ·rw [if_pos c3] at H
  have c3b0 := beq_iff_eq.mpr c3
  have c3b1 := bne_eq_false_iff_eq.mpr c3
  have c3b2 : (l0.length == l1.length) = true := by first | simpa using c3 | (simp at c3 ⊢; omega)
  clear c3
  have H' := ak H
  clear H
  go_enter Tryd.func31, Tryd.ntmps31
  go_wp2
  repeat (go_quiet (fail); try go_wp2)
  go_loopg [5] k (fun kq v5 w' => ∃ (x5_1 : Int), v5 = .int .i64 x5_1 ∧ Aside0 (attestorref01_Same.l0 kq l0 l1 x5_1 = some r) ∧ Aside0 (kq ≤ k) ∧ Drawn0 w w')
  case atStart => exact ⟨(0), gb_, H', ⟨Nat.le_refl _⟩, by repeat (first | exact Drawn0.refl _ | apply Drawn0.step)⟩
  case round =>
   clear H'
   (try clear c1); (try clear p2); (try clear c3); (try clear c3b0); (try clear c3b1); (try clear c3b2)
   obtain ⟨x5_1, rfl, HA, HK1, ⟨m1, rfl⟩⟩ := hrel
   cases gk with
   | zero => exact absurd HA.out (by simp [attestorref01_Same.l0])
   | succ k1 =>
    have H := HA.out
    clear HA
    simp only [attestorref01_Same.l0] at H
    by_cases c4 : x5_1 < (l0.length : Int)
    ·rw [if_pos c4] at H
     have c4b0 := decide_eq_true c4
     clear c4
     obtain ⟨c5, H⟩ : (0 ≤ x5_1) ∧ _ := it_ H
     have c5b0 := decide_eq_true c5
     clear c5
     obtain ⟨c6, H⟩ : (x5_1 < (l1.length : Int)) ∧ _ := it_ H
     have c6b0 := decide_eq_true c6
     clear c6
     by_cases c7 : (rd l0 x5_1) = (rd l1 x5_1)
     ·rw [if_pos c7] at H
      have c7b0 := beq_iff_eq.mpr c7
      have c7b1 := bne_eq_false_iff_eq.mpr c7
      clear c7
      have H' := ak H
      clear H
      have p439 : 0 ≤ (x5_1 : Int) := od_
      have q439 : x5_1 < (l0.length : Int) := od_
      obtain ⟨ad439, e439, hx439_0⟩ := Kd.at_int HR0.out x5_1 p439 q439
      cases e439
      replace p439 := eq_true p439
      replace q439 := eq_true q439
      have p440 : 0 ≤ (x5_1 : Int) := od_
      have q440 : x5_1 < (l1.length : Int) := od_
      obtain ⟨ad440, e440, hx440_0⟩ := Kd.at_int HR1.out x5_1 p440 q440
      cases e440
      replace p440 := eq_true p440
      replace q440 := eq_true q440
      go_wp2
      repeat (go_quiet (fail); try go_wp2)
      go_roundg k1
      case measure => have := HK1.out; omega
      case rel => exact ⟨(wrap64 (x5_1 + 1)), gb_, H', ⟨by have := HK1.out; omega⟩, by repeat (first | exact Drawn0.refl _ | apply Drawn0.step)⟩
     rw [if_neg c7] at H
     have c7b0 := beq_eq_false_iff_ne.mpr c7
     have c7b1 := bne_iff_ne.mpr c7
     obtain rfl := Option.some.inj H
     have p439 : 0 ≤ (x5_1 : Int) := od_
     have q439 : x5_1 < (l0.length : Int) := od_
     obtain ⟨ad439, e439, hx439_0⟩ := Kd.at_int HR0.out x5_1 p439 q439
     cases e439
     replace p439 := eq_true p439
     replace q439 := eq_true q439
     have p440 : 0 ≤ (x5_1 : Int) := od_
     have q440 : x5_1 < (l1.length : Int) := od_
     obtain ⟨ad440, e440, hx440_0⟩ := Kd.at_int HR1.out x5_1 p440 q440
     cases e440
     replace p440 := eq_true p440
     replace q440 := eq_true q440
     go_wp2
     repeat (go_quiet (fail); try go_wp2)
     go_ret
     exact ⟨by first | rfl | (simp; done) | (simp [*]; done), by repeat (first | exact Drawn0.refl _ | apply Drawn0.step)⟩
    rw [if_neg c4] at H
    have c4b0 := decide_eq_false c4
    clear c4
    obtain rfl := Option.some.inj H
    go_wp2
    repeat (go_quiet (fail); try go_wp2)
    go_ret
    exact ⟨by first | rfl | (simp; done) | (simp [*]; done), by repeat (first | exact Drawn0.refl _ | apply Drawn0.step)⟩
 rw [if_neg c3] at H
 have c3b0 := beq_eq_false_iff_ne.mpr c3
 have c3b1 := bne_iff_ne.mpr c3
 have c3b2 : (l0.length == l1.length) = false := by first | simpa using c3 | (simp at c3 ⊢; omega)
 obtain rfl := Option.some.inj H
 go_enter Tryd.func31, Tryd.ntmps31
 go_wp2
 repeat (go_quiet (fail); try go_wp2)
 go_ret
 exact ⟨by first | rfl | (simp; done) | (simp [*]; done), by repeat (first | exact Drawn0.refl _ | apply Drawn0.step)⟩

def attestorref03_SameLists.l0 : Nat → List (List Int) → List (List Int) → Int → Option (Bool)
 | 0, _, _, _ => none
 | k + 1, x0, x1, x5 => if x5 < (x0.length : Int) then (if 0 ≤ x5 then (if x5 < (x1.length : Int) then ((attestorref01_Same.f k (rd_L1 x0 x5) (rd_L1 x1 x5)).bind fun t443 => (if t443 = true then (attestorref03_SameLists.l0 k x0 x1 (wrap64 (x5 + 1))) else (some false))) else (none)) else (none)) else (some true)
def attestorref03_SameLists.f (k : Nat) (l0 : List (List Int)) (l1 : List (List Int)) : Option (Bool) := if (l0.length : Int) = (l1.length : Int) then (attestorref03_SameLists.l0 k l0 l1 0) else (some false)
set_option maxHeartbeats 8000000 in
set_option maxRecDepth 100000 in
theorem attestorref03_SameLists.calls (k : Nat) (A0 : Option Addr) (c0 : Nat) (l0 : List (List Int)) (A1 : Option Addr) (c1 : Nat) (l1 : List (List Int)) (r : Bool) (w : World) (hr0 : Kd.C (Kd.slice 22 (Kd.int .u64)) w A0 l0.length l0) (hc0 : l0.length ≤ c0) (hr1 : Kd.C (Kd.slice 22 (Kd.int .u64)) w A1 l1.length l1) (hc1 : l1.length ≤ c1) (h : attestorref03_SameLists.f k l0 l1 = some r) :
  Calls Tryd.prog 32 #[.slice A0 l0.length c0, .slice A1 l1.length c1] w fun e w' => e = .returned (.bool r) ∧ Drawn0 w w' := by
 have HR0 := ak hr0
 have HC0 := ak hc0
 clear hr0 hc0
 have HR1 := ak hr1
 have HC1 := ak hc1
 clear hr1 hc1
 have H : (if (l0.length : Int) = (l1.length : Int) then (attestorref03_SameLists.l0 k l0 l1 0) else (some false)) = some r := h
 clear h
 by_cases c3 : (l0.length : Int) = (l1.length : Int)
 ·rw [if_pos c3] at H
  have c3b0 := beq_iff_eq.mpr c3
  have c3b1 := bne_eq_false_iff_eq.mpr c3
  have c3b2 : (l0.length == l1.length) = true := by first | simpa using c3 | (simp at c3 ⊢; omega)
  clear c3
  have H' := ak H
  clear H
  go_enter Tryd.func32, Tryd.ntmps32
  go_wp2
  repeat (go_quiet (fail); try go_wp2)
  go_loopg [5] k (fun kq v5 w' => ∃ (x5_1 : Int), v5 = .int .i64 x5_1 ∧ Aside0 (attestorref03_SameLists.l0 kq l0 l1 x5_1 = some r) ∧ Aside0 (kq ≤ k) ∧ Drawn0 w w')
  case atStart => exact ⟨(0), gb_, H', ⟨Nat.le_refl _⟩, by repeat (first | exact Drawn0.refl _ | apply Drawn0.step)⟩
  case round =>
   clear H'
   (try clear c1); (try clear p2); (try clear c3); (try clear c3b0); (try clear c3b1); (try clear c3b2)
   obtain ⟨x5_1, rfl, HA, HK1, ⟨m1, rfl⟩⟩ := hrel
   cases gk with
   | zero => exact absurd HA.out (by simp [attestorref03_SameLists.l0])
   | succ k1 =>
    have H := HA.out
    clear HA
    simp only [attestorref03_SameLists.l0] at H
    by_cases c4 : x5_1 < (l0.length : Int)
    ·rw [if_pos c4] at H
     have c4b0 := decide_eq_true c4
     clear c4
     obtain ⟨c5, H⟩ : (0 ≤ x5_1) ∧ _ := it_ H
     have c5b0 := decide_eq_true c5
     clear c5
     obtain ⟨c6, H⟩ : (x5_1 < (l1.length : Int)) ∧ _ := it_ H
     have c6b0 := decide_eq_true c6
     clear c6
     revert H
     refine bd_ fun t443 A7 H => ?_
     by_cases c8 : t443 = true
     ·subst c8
      rw [if_pos rfl] at H
      have H' := ak H
      clear H
      have p441 : 0 ≤ (x5_1 : Int) := od_
      have q441 : x5_1 < (l0.length : Int) := od_
      obtain ⟨ad441, A441_0, c441_0, e441, hx441_0, hl441_0, hi441_0⟩ := at_L1 HR0.out x5_1 p441 q441
      cases e441
      have HR441_0 := ak hi441_0
      have HC441_0 := ak hl441_0
      clear hi441_0 hl441_0
      replace p441 := eq_true p441
      replace q441 := eq_true q441
      have p442 : 0 ≤ (x5_1 : Int) := od_
      have q442 : x5_1 < (l1.length : Int) := od_
      obtain ⟨ad442, A442_0, c442_0, e442, hx442_0, hl442_0, hi442_0⟩ := at_L1 HR1.out x5_1 p442 q442
      cases e442
      have HR442_0 := ak hi442_0
      have HC442_0 := ak hl442_0
      clear hi442_0 hl442_0
      replace p442 := eq_true p442
      replace q442 := eq_true q442
      go_wp2_with (first | (go_at_call 31; (with_reducible refine (attestorref01_Same.calls k1 _ _ (rd_L1 l0 x5_1) _ _ (rd_L1 l1 x5_1) true _ ?side1 ?side2 ?side3 ?side4 A7.out).mono ?_); (case side1 => exact cU_ HR441_0.out); (case side2 => exact HC441_0.out); (case side3 => exact cU_ HR442_0.out); (case side4 => exact HC442_0.out); rintro e w' ⟨rfl, ⟨nd, rfl⟩⟩; (try first | exact ⟨rfl, _, World.drewN_drewN _ _ _⟩ | exact ⟨rfl, _, dd_⟩)))
      repeat (go_quiet (first | (go_at_call 31; (with_reducible refine (attestorref01_Same.calls k1 _ _ (rd_L1 l0 x5_1) _ _ (rd_L1 l1 x5_1) true _ ?side1 ?side2 ?side3 ?side4 A7.out).mono ?_); (case side1 => exact cU_ HR441_0.out); (case side2 => exact HC441_0.out); (case side3 => exact cU_ HR442_0.out); (case side4 => exact HC442_0.out); rintro e w' ⟨rfl, ⟨nd, rfl⟩⟩; (try first | exact ⟨rfl, _, World.drewN_drewN _ _ _⟩ | exact ⟨rfl, _, dd_⟩))); try go_wp2_with (first | (go_at_call 31; (with_reducible refine (attestorref01_Same.calls k1 _ _ (rd_L1 l0 x5_1) _ _ (rd_L1 l1 x5_1) true _ ?side1 ?side2 ?side3 ?side4 A7.out).mono ?_); (case side1 => exact cU_ HR441_0.out); (case side2 => exact HC441_0.out); (case side3 => exact cU_ HR442_0.out); (case side4 => exact HC442_0.out); rintro e w' ⟨rfl, ⟨nd, rfl⟩⟩; (try first | exact ⟨rfl, _, World.drewN_drewN _ _ _⟩ | exact ⟨rfl, _, dd_⟩))))
      go_roundg k1
      case measure => have := HK1.out; omega
      case rel => exact ⟨(wrap64 (x5_1 + 1)), gb_, H', ⟨by have := HK1.out; omega⟩, by repeat (first | exact Drawn0.refl _ | apply Drawn0.step)⟩
     replace c8 := Bool.eq_false_iff.mpr c8
     subst c8
     rw [if_neg (show ¬ (false = true) by decide)] at H
     obtain rfl := Option.some.inj H
     have p441 : 0 ≤ (x5_1 : Int) := od_
     have q441 : x5_1 < (l0.length : Int) := od_
     obtain ⟨ad441, A441_0, c441_0, e441, hx441_0, hl441_0, hi441_0⟩ := at_L1 HR0.out x5_1 p441 q441
     cases e441
     have HR441_0 := ak hi441_0
     have HC441_0 := ak hl441_0
     clear hi441_0 hl441_0
     replace p441 := eq_true p441
     replace q441 := eq_true q441
     have p442 : 0 ≤ (x5_1 : Int) := od_
     have q442 : x5_1 < (l1.length : Int) := od_
     obtain ⟨ad442, A442_0, c442_0, e442, hx442_0, hl442_0, hi442_0⟩ := at_L1 HR1.out x5_1 p442 q442
     cases e442
     have HR442_0 := ak hi442_0
     have HC442_0 := ak hl442_0
     clear hi442_0 hl442_0
     replace p442 := eq_true p442
     replace q442 := eq_true q442
     go_wp2_with (first | (go_at_call 31; (with_reducible refine (attestorref01_Same.calls k1 _ _ (rd_L1 l0 x5_1) _ _ (rd_L1 l1 x5_1) false _ ?side1 ?side2 ?side3 ?side4 A7.out).mono ?_); (case side1 => exact cU_ HR441_0.out); (case side2 => exact HC441_0.out); (case side3 => exact cU_ HR442_0.out); (case side4 => exact HC442_0.out); rintro e w' ⟨rfl, ⟨nd, rfl⟩⟩; (try first | exact ⟨rfl, _, World.drewN_drewN _ _ _⟩ | exact ⟨rfl, _, dd_⟩)))
     repeat (go_quiet (first | (go_at_call 31; (with_reducible refine (attestorref01_Same.calls k1 _ _ (rd_L1 l0 x5_1) _ _ (rd_L1 l1 x5_1) false _ ?side1 ?side2 ?side3 ?side4 A7.out).mono ?_); (case side1 => exact cU_ HR441_0.out); (case side2 => exact HC441_0.out); (case side3 => exact cU_ HR442_0.out); (case side4 => exact HC442_0.out); rintro e w' ⟨rfl, ⟨nd, rfl⟩⟩; (try first | exact ⟨rfl, _, World.drewN_drewN _ _ _⟩ | exact ⟨rfl, _, dd_⟩))); try go_wp2_with (first | (go_at_call 31; (with_reducible refine (attestorref01_Same.calls k1 _ _ (rd_L1 l0 x5_1) _ _ (rd_L1 l1 x5_1) false _ ?side1 ?side2 ?side3 ?side4 A7.out).mono ?_); (case side1 => exact cU_ HR441_0.out); (case side2 => exact HC441_0.out); (case side3 => exact cU_ HR442_0.out); (case side4 => exact HC442_0.out); rintro e w' ⟨rfl, ⟨nd, rfl⟩⟩; (try first | exact ⟨rfl, _, World.drewN_drewN _ _ _⟩ | exact ⟨rfl, _, dd_⟩))))
     go_ret
     exact ⟨by first | rfl | (simp; done) | (simp [*]; done), by repeat (first | exact Drawn0.refl _ | apply Drawn0.step)⟩
    rw [if_neg c4] at H
    have c4b0 := decide_eq_false c4
    clear c4
    obtain rfl := Option.some.inj H
    go_wp2
    repeat (go_quiet (fail); try go_wp2)
    go_ret
    exact ⟨by first | rfl | (simp; done) | (simp [*]; done), by repeat (first | exact Drawn0.refl _ | apply Drawn0.step)⟩
 rw [if_neg c3] at H
 have c3b0 := beq_eq_false_iff_ne.mpr c3
 have c3b1 := bne_iff_ne.mpr c3
 have c3b2 : (l0.length == l1.length) = false := by first | simpa using c3 | (simp at c3 ⊢; omega)
 obtain rfl := Option.some.inj H
 go_enter Tryd.func32, Tryd.ntmps32
 go_wp2
 repeat (go_quiet (fail); try go_wp2)
 go_ret
 exact ⟨by first | rfl | (simp; done) | (simp [*]; done), by repeat (first | exact Drawn0.refl _ | apply Drawn0.step)⟩

end Go.Proofs.YthinfmfjpaikiaaDoor.Q

import Derived.Test.YtjjjoepnlhpjdaaDoorQ0
import Derived.Test.YtjjjoepnlhpjdaaDoorQ19
import Derived.Test.YtjjjoepnlhpjdaaDoorQ22
import Derived.Test.YtjjjoepnlhpjdaaDoorQ23
namespace Go.Proofs.YtjjjoepnlhpjdaaDoor.Q
open Go.RowKit Go.Proofs.YtjjjoepnlhpjdaaDoorW.PrintWords Go.Proofs.YtjjjoepnlhpjdaaDoorW.PrintLast Go.Proofs.YtjjjoepnlhpjdaaDoorW.PrintMore
open Kd (R_below R_mono R_far R_types R_lower R_new' R_elder' R_base R_lt R_slice R_reads' R_lit V_mk C_below F_below C_F R_drew heap_int)
attribute [local go_sem] max2_int min2_int max_two min_two max_three min_three max_four min_four   -- for this text's walks alone
set_option linter.unusedVariables false
set_option linter.unusedSimpArgs false

def attestorref02_Valid.f (k : Nat) (l0_0 : List Int) (l0_1 : List Int) : Option (Bool) := (attestorref02_ValidNat.f l0_0).bind fun t1308 => (if t1308 = true then ((attestorref02_ValidNat.f l0_1).bind fun t1309 => (if t1309 = true then (if (l0_1.length : Int) > 0 then ((attestorref02_gcd.f k l0_0 l0_1).bind fun t1310 => ((attestorref02_SameNat.f k t1310 (([1] : List Int))).bind fun t1316 => (some t1316))) else (some false)) else (some false))) else (some false))
set_option maxHeartbeats 8000000 in
set_option maxRecDepth 100000 in
theorem attestorref02_Valid.calls (k : Nat) (A0_0 : Option Addr) (c0_0 : Nat) (l0_0 : List Int) (A0_1 : Option Addr) (c0_1 : Nat) (l0_1 : List Int) (r : Bool) (w : World) (hr0_0 : Kd.C (Kd.int .u32) w A0_0 l0_0.length l0_0) (hc0_0 : l0_0.length ≤ c0_0) (hr0_1 : Kd.C (Kd.int .u32) w A0_1 l0_1.length l0_1) (hc0_1 : l0_1.length ≤ c0_1) (h : attestorref02_Valid.f k l0_0 l0_1 = some r) :
  Calls Tryd.prog 38 #[.agg #[.slice A0_0 l0_0.length c0_0, .slice A0_1 l0_1.length c0_1]] w fun e w' => e = .returned (.bool r) ∧ Below w.heap.size w w' := by
 have hu29 := Tryd.underlying29
 have HR0_0 := ak hr0_0
 have HC0_0 := ak hc0_0
 clear hr0_0 hc0_0
 have HR0_1 := ak hr0_1
 have HC0_1 := ak hc0_1
 clear hr0_1 hc0_1
 have HB := ak (Below.refl w.heap.size w)
 have H := h
 clear h
 unfold attestorref02_Valid.f at H
 revert H
 refine bd_ fun t1308 A2 H => ?_
 by_cases c3 : t1308 = true
 ·subst c3
  rw [if_pos rfl] at H
  revert H
  refine bd_ fun t1309 A4 H => ?_
  by_cases c5 : t1309 = true
  ·subst c5
   rw [if_pos rfl] at H
   by_cases c6 : (l0_1.length : Int) > 0
   ·rw [if_pos c6] at H
    have c6b0 : decide (0 < (l0_1.length : Int)) = true := decide_eq_true c6
    have c6b1 : decide (0 < l0_1.length) = true := decide_eq_true (by omega)
    clear c6
    revert H
    refine bd_ fun t1310 A7 H => ?_
    obtain ⟨y1313, hy1313⟩ : ∃ y_ : List Int, y_ = (([1] : List Int)) := ⟨_, rfl⟩
    replace H : ((attestorref02_SameNat.f k t1310 y1313).bind fun t1316 => (some t1316)) = some r := by first | (rw [hy1313]; with_reducible exact H) | (have H2_ := (Option.bind_some _ _).symm.trans H; rw [hy1313]; with_reducible exact H2_) | (have H2_ := (Option.bind_some _ _).symm.trans H; with_reducible exact H2_) | with_reducible exact H | (rw [hy1313]; exact H) | exact H
    have Ny1313 := ak hy1313
    clear hy1313
    revert H
    refine bd_ fun t1316 A8 H => ?_
    obtain rfl := Option.some.inj H
    go_enter Tryd.func38, Tryd.ntmps38
    go_wp2_with (first | ((with_reducible refine gate_dst (N := 1) rfl ?_); (try (refine gate_guard (by rfl) ?_; dsimp only)); refine bx_ 1 29 #[.slice A0_0 l0_0.length c0_0, .slice A0_1 l0_1.length c0_1] ?_; intro gb1307 hg w9 hbox hb; refine nx4_ (below_step (bU_ HB.out) hb) (hbox) ((hs_ hg (below_size (bU_ HB.out)))) ((hs_ hg (below_size (bU_ HB.out)))) ?_; clear HB; intro HB BK1307 GW1307 GE1307; clear hb hbox hg; have hcz10_0 := bc0_ BK1307.out; have hcz10_1 := bc1_ BK1307.out; have hfz10_0 := blk_frozen BK1307.out 0; have hfz10_1 := blk_frozen BK1307.out 1) | ((with_reducible refine gate_callee (f := 48) rfl ?_); refine gl_ (some 5) Tryd.func48 #[.slice A0_0 l0_0.length c0_0] ?_; (with_reducible refine (attestorref02_ValidNat.calls _ _ l0_0 true _ ?side1 ?side2 A2.out).mono ?_); (case side1 => exact cU_ (C_below HR0_0.out HB.out)); (case side2 => exact HC0_0.out); rintro e w' ⟨rfl, ⟨nd, rfl⟩⟩; refine ⟨_, rfl, ?_⟩) | (go_at_call 48; (with_reducible refine (attestorref02_ValidNat.calls _ _ l0_1 true _ ?side1 ?side2 A4.out).mono ?_); (case side1 => repeat (first | exact (C_below HR0_1.out sU_) | (with_reducible refine Kd.C_alloc ?_ _) | (with_reducible refine Kd.C_drewN ?_ _) | (with_reducible refine Kd.C_drew ?_))); (case side2 => exact HC0_1.out); rintro e w' ⟨rfl, ⟨nd, rfl⟩⟩) | (go_at_call 79; (with_reducible refine (attestorref02_gcd.calls k (fun k_ => k_ < w.heap.size) _ _ l0_0 (fun k_ => k_ < w.heap.size) _ _ l0_1 t1310 _ ?side1 ?side2 A7.out).mono ?_); (case side1 => exact V_mk HC0_0.out (F_below (C_F (heap_int .u32) HR0_0.out) sU_)); (case side2 => exact V_mk HC0_1.out (F_below (C_F (heap_int .u32) HR0_1.out) sU_)); rintro e w11 ⟨v1311, rfl, ho0, hb⟩; refine nx3_ (R_lower (R_mono (ok' := fun k_ => True) ho0 (fun _ hk_ => trivial)) (below_size sU_)) (blk_below (kU_ BK1307.out) hb) (below_step sU_ hb) ?_; clear BK1307 HB; intro HO1312 BK1307 HB; clear hb ho0) | ((with_reducible refine gate_dst (N := 23) rfl ?_); (try (refine gate_guard (by rfl) ?_; dsimp only)); refine R_lit (Kd.int .u32) _ 44 ?hg (N := 23) ?hd (xs := ([1] : List Int)) (inner := [.int .u32 1]) (ok := fun _ => True) (okp := fun _ => True) ?hr ?hp (fun _ hk => hk) trivial (Below.refl _ _) (Nat.le_refl _) (by simp) ?_; (case hd => rfl); (case hg => rfl); (case hr => first | (go_simp; done) | (go_simp; rfl)); (case hp => exact (Reps.one (show Kd.M (Kd.int .u32) _ _ _ 1 [.int .u32 1] from rfl) (Reps.none _ _))); intro v1314 w12 ho13 hb hg_ hnew_; clear hg_ hnew_; (first | rw [← Ny1313.out] at ho13 | (simp only [Int.reduceToNat] at ho13; rw [← Ny1313.out] at ho13)); refine nx4_ (R_elder' (rU_ HO1312.out) (R_base ho13) hb) (R_lower (R_new' ho13 (R_lt (rU_ HO1312.out))) (below_size sU_)) (blk_below (kU_ BK1307.out) hb) (below_step sU_ hb) ?_; clear HO1312 BK1307 HB; intro HO1312 HO1315 BK1307 HB; clear hb ho13; obtain ⟨Ao14, co14, eo14⟩ := R_slice HO1312.out; subst eo14; obtain ⟨Ao15, co15, eo15⟩ := R_slice HO1315.out; subst eo15) | (go_at_call 15; (with_reducible refine (attestorref02_SameNat.calls k _ _ t1310 _ _ y1313 t1316 _ ?side1 ?side2 ?side3 ?side4 A8.out).mono ?_); (case side1 => exact cU_ ((R_reads' HO1312.out).2.2)); (case side2 => exact (R_reads' HO1312.out).2.1); (case side3 => exact cU_ ((R_reads' HO1315.out).2.2)); (case side4 => exact (R_reads' HO1315.out).2.1); rintro e w' ⟨rfl, ⟨nd, rfl⟩⟩))
    go_ret
    exact ⟨eW_, sU_⟩
   ·rw [if_neg c6] at H
    have c6b0 : decide (0 < (l0_1.length : Int)) = false := decide_eq_false c6
    have c6b1 : decide (0 < l0_1.length) = false := decide_eq_false (by omega)
    clear c6
    obtain rfl := Option.some.inj H
    go_enter Tryd.func38, Tryd.ntmps38
    go_wp2_with (first | ((with_reducible refine gate_dst (N := 1) rfl ?_); (try (refine gate_guard (by rfl) ?_; dsimp only)); refine bx_ 1 29 #[.slice A0_0 l0_0.length c0_0, .slice A0_1 l0_1.length c0_1] ?_; intro gb1307 hg w16 hbox hb; refine nx4_ (below_step (bU_ HB.out) hb) (hbox) ((hs_ hg (below_size (bU_ HB.out)))) ((hs_ hg (below_size (bU_ HB.out)))) ?_; clear HB; intro HB BK1307 GW1307 GE1307; clear hb hbox hg; have hcz17_0 := bc0_ BK1307.out; have hcz17_1 := bc1_ BK1307.out; have hfz17_0 := blk_frozen BK1307.out 0; have hfz17_1 := blk_frozen BK1307.out 1) | ((with_reducible refine gate_callee (f := 48) rfl ?_); refine gl_ (some 5) Tryd.func48 #[.slice A0_0 l0_0.length c0_0] ?_; (with_reducible refine (attestorref02_ValidNat.calls _ _ l0_0 true _ ?side1 ?side2 A2.out).mono ?_); (case side1 => exact cU_ (C_below HR0_0.out HB.out)); (case side2 => exact HC0_0.out); rintro e w' ⟨rfl, ⟨nd, rfl⟩⟩; refine ⟨_, rfl, ?_⟩) | (go_at_call 48; (with_reducible refine (attestorref02_ValidNat.calls _ _ l0_1 true _ ?side1 ?side2 A4.out).mono ?_); (case side1 => repeat (first | exact (C_below HR0_1.out sU_) | (with_reducible refine Kd.C_alloc ?_ _) | (with_reducible refine Kd.C_drewN ?_ _) | (with_reducible refine Kd.C_drew ?_))); (case side2 => exact HC0_1.out); rintro e w' ⟨rfl, ⟨nd, rfl⟩⟩))
    go_ret
    exact ⟨eW_, sU_⟩
  ·replace c5 := Bool.eq_false_iff.mpr c5
   subst c5
   rw [if_neg (show ¬ (false = true) by decide)] at H
   obtain rfl := Option.some.inj H
   go_enter Tryd.func38, Tryd.ntmps38
   go_wp2_with (first | ((with_reducible refine gate_dst (N := 1) rfl ?_); (try (refine gate_guard (by rfl) ?_; dsimp only)); refine bx_ 1 29 #[.slice A0_0 l0_0.length c0_0, .slice A0_1 l0_1.length c0_1] ?_; intro gb1307 hg w18 hbox hb; refine nx4_ (below_step (bU_ HB.out) hb) (hbox) ((hs_ hg (below_size (bU_ HB.out)))) ((hs_ hg (below_size (bU_ HB.out)))) ?_; clear HB; intro HB BK1307 GW1307 GE1307; clear hb hbox hg; have hcz19_0 := bc0_ BK1307.out; have hcz19_1 := bc1_ BK1307.out; have hfz19_0 := blk_frozen BK1307.out 0; have hfz19_1 := blk_frozen BK1307.out 1) | ((with_reducible refine gate_callee (f := 48) rfl ?_); refine gl_ (some 5) Tryd.func48 #[.slice A0_0 l0_0.length c0_0] ?_; (with_reducible refine (attestorref02_ValidNat.calls _ _ l0_0 true _ ?side1 ?side2 A2.out).mono ?_); (case side1 => exact cU_ (C_below HR0_0.out HB.out)); (case side2 => exact HC0_0.out); rintro e w' ⟨rfl, ⟨nd, rfl⟩⟩; refine ⟨_, rfl, ?_⟩) | (go_at_call 48; (with_reducible refine (attestorref02_ValidNat.calls _ _ l0_1 false _ ?side1 ?side2 A4.out).mono ?_); (case side1 => repeat (first | exact (C_below HR0_1.out sU_) | (with_reducible refine Kd.C_alloc ?_ _) | (with_reducible refine Kd.C_drewN ?_ _) | (with_reducible refine Kd.C_drew ?_))); (case side2 => exact HC0_1.out); rintro e w' ⟨rfl, ⟨nd, rfl⟩⟩))
   go_ret
   exact ⟨eW_, sU_⟩
 ·replace c3 := Bool.eq_false_iff.mpr c3
  subst c3
  rw [if_neg (show ¬ (false = true) by decide)] at H
  obtain rfl := Option.some.inj H
  go_enter Tryd.func38, Tryd.ntmps38
  go_wp2_with (first | ((with_reducible refine gate_dst (N := 1) rfl ?_); (try (refine gate_guard (by rfl) ?_; dsimp only)); refine bx_ 1 29 #[.slice A0_0 l0_0.length c0_0, .slice A0_1 l0_1.length c0_1] ?_; intro gb1307 hg w20 hbox hb; refine nx4_ (below_step (bU_ HB.out) hb) (hbox) ((hs_ hg (below_size (bU_ HB.out)))) ((hs_ hg (below_size (bU_ HB.out)))) ?_; clear HB; intro HB BK1307 GW1307 GE1307; clear hb hbox hg; have hcz21_0 := bc0_ BK1307.out; have hcz21_1 := bc1_ BK1307.out; have hfz21_0 := blk_frozen BK1307.out 0; have hfz21_1 := blk_frozen BK1307.out 1) | ((with_reducible refine gate_callee (f := 48) rfl ?_); refine gl_ (some 5) Tryd.func48 #[.slice A0_0 l0_0.length c0_0] ?_; (with_reducible refine (attestorref02_ValidNat.calls _ _ l0_0 false _ ?side1 ?side2 A2.out).mono ?_); (case side1 => exact cU_ (C_below HR0_0.out HB.out)); (case side2 => exact HC0_0.out); rintro e w' ⟨rfl, ⟨nd, rfl⟩⟩; refine ⟨_, rfl, ?_⟩))
  go_ret
  exact ⟨eW_, sU_⟩

def attestorref02_Order.j0 : Nat → Bool → List Int → List Int → List Int → List Int → Option (Int)
 | 0, _, _, _, _, _ => none
 | k + 1, x12, x1318000, x1318001, x1319000, x1319001 => if x12 = true then (some 0) else ((attestorref02_product.f k x1318000 x1319001).bind fun t1321 => ((attestorref02_product.f k x1319000 x1318001).bind fun t1324 => ((attestorref02_order.f k t1321 t1324).bind fun t1327 => (some t1327))))
def attestorref02_Order.f (k : Nat) (l0_0 : List Int) (l0_1 : List Int) (l1_0 : List Int) (l1_1 : List Int) : Option (Int) := (attestorref02_Valid.f k l0_0 l0_1).bind fun t1319 => (if t1319 = true then ((attestorref02_Valid.f k l1_0 l1_1).bind fun t1320 => (attestorref02_Order.j0 k (!t1320) l0_0 l0_1 l1_0 l1_1)) else (attestorref02_Order.j0 k true l0_0 l0_1 l1_0 l1_1))
def attestorref02_Order.T3 : Bool × List (List Nat × List Nat) := (true, [([], []), ([0], [0]), ([], []), ([2], [2]), ([1, 3], [1, 3]), ([], []), ([5], [5]), ([], []), ([7], [7]), ([6, 8, 4], [6, 8]), ([4, 9, 9], [4, 9]), ([10, 10, 0, 1, 2, 3, 4, 5, 6, 7, 8, 9, 10], [10])])
def attestorref02_Order.B3 : List Nat := [0, 1, 0, 4, 15, 0, 32, 0, 128, 511, 1023, 2047]
theorem attestorref02_Order.tab3 : rtab .any (opsOf Tryd.f39 3) = attestorref02_Order.T3 := by kernel_rfl
theorem attestorref02_Order.bits3 : waitsOk attestorref02_Order.T3.2 attestorref02_Order.B3 = true := by kernel_rfl
set_option maxHeartbeats 8000000 in
set_option maxRecDepth 100000 in
theorem attestorref02_Order.calls (k : Nat) (A0_0 : Option Addr) (c0_0 : Nat) (l0_0 : List Int) (A0_1 : Option Addr) (c0_1 : Nat) (l0_1 : List Int) (A1_0 : Option Addr) (c1_0 : Nat) (l1_0 : List Int) (A1_1 : Option Addr) (c1_1 : Nat) (l1_1 : List Int) (r : Int) (w : World) (hr0_0 : Kd.C (Kd.int .u32) w A0_0 l0_0.length l0_0) (hc0_0 : l0_0.length ≤ c0_0) (hr0_1 : Kd.C (Kd.int .u32) w A0_1 l0_1.length l0_1) (hc0_1 : l0_1.length ≤ c0_1) (hr1_0 : Kd.C (Kd.int .u32) w A1_0 l1_0.length l1_0) (hc1_0 : l1_0.length ≤ c1_0) (hr1_1 : Kd.C (Kd.int .u32) w A1_1 l1_1.length l1_1) (hc1_1 : l1_1.length ≤ c1_1) (h : attestorref02_Order.f k l0_0 l0_1 l1_0 l1_1 = some r) :
  Calls Tryd.prog 39 #[.agg #[.slice A0_0 l0_0.length c0_0, .slice A0_1 l0_1.length c0_1], .agg #[.slice A1_0 l1_0.length c1_0, .slice A1_1 l1_1.length c1_1]] w fun e w' => e = .returned (.int .i64 r) ∧ Below w.heap.size w w' := by
 have hu29 := Tryd.underlying29
 have HR0_0 := ak hr0_0
 have HC0_0 := ak hc0_0
 clear hr0_0 hc0_0
 have HR0_1 := ak hr0_1
 have HC0_1 := ak hc0_1
 clear hr0_1 hc0_1
 have HR1_0 := ak hr1_0
 have HC1_0 := ak hc1_0
 clear hr1_0 hc1_0
 have HR1_1 := ak hr1_1
 have HC1_1 := ak hc1_1
 clear hr1_1 hc1_1
 have HB := ak (Below.refl w.heap.size w)
 have H := h
 clear h
 unfold attestorref02_Order.f at H
 have HC3 := ak H
 clear H
 go_enter Tryd.func39, Tryd.ntmps39
 go_upto_region 1 with (first | ((with_reducible refine gate_dst (N := 2) rfl ?_); refine bx_ 2 29 #[.slice A0_0 l0_0.length c0_0, .slice A0_1 l0_1.length c0_1] ?_; intro gb1317 hg w4 hbox hb; refine nx4_ (below_step (bU_ HB.out) hb) (hbox) ((hs_ hg (below_size (bU_ HB.out)))) ((hs_ hg (below_size (bU_ HB.out)))) ?_; clear HB; intro HB BK1317 GW1317 GE1317; clear hb hbox hg) | ((with_reducible refine gate_dst (N := 3) rfl ?_); refine bx_ 3 29 #[.slice A1_0 l1_0.length c1_0, .slice A1_1 l1_1.length c1_1] ?_; intro gb1318 hg w5 hbox hb; refine nx7_ (blk_below (kU_ BK1317.out) hb) (below_step sU_ hb) (hbox) ((hs_ hg (below_size sU_) : w.heap.size ≤ gb1318)) ((hs_ hg (below_size sU_) : w.heap.size ≤ gb1318)) ((hl_ hg (kU_ BK1317.out))) ((hm_ hg (kU_ BK1317.out))) ?_; clear BK1317 HB; intro BK1317 HB BK1318 GW1318 GE1318 NB1317_1318 NB1318_1317; clear hb hbox hg))
 (try simp only [Act.put, s1_, s2_, s3_])
 go_cut [12] (fun v12 wc => ∃ (kq : Nat) (x12_2 : Bool), v12 = .bool x12_2 ∧ Aside0 (attestorref02_Order.j0 kq x12_2 l0_0 l0_1 l1_0 l1_1 = some r) ∧ Aside0 (kq ≤ k) ∧ Aside0 (wc.heap[gb1317]? = some (.cells #[(.slice A0_0 l0_0.length c0_0), (.slice A0_1 l0_1.length c0_1)] 29 (0, 0))) ∧ Aside0 (wc.heap[gb1318]? = some (.cells #[(.slice A1_0 l1_0.length c1_0), (.slice A1_1 l1_1.length c1_1)] 29 (0, 0))) ∧ Aside0 (Below w.heap.size w wc))
 case first =>
  have H := HC3.out
  clear HC3
  revert H
  refine bd_ fun t1319 A6 H => ?_
  by_cases c7 : t1319 = true
  ·subst c7
   rw [if_pos rfl] at H
   revert H
   refine bd_ fun t1320 A8 H => ?_
   have H' := ak H
   clear H
   have hnb9 := NB1317_1318.out
   have hnc9 := NB1318_1317.out
   have hcz10_0 := bc0_ BK1317.out
   have hcz10_1 := bc1_ BK1317.out
   have hfz10_0 := blk_frozen BK1317.out 0
   have hfz10_1 := blk_frozen BK1317.out 1
   go_wp2_with (first | ((with_reducible refine gate_callee (f := 38) rfl ?_); refine gl_ (some 6) Tryd.func38 #[.agg #[.slice A0_0 l0_0.length c0_0, .slice A0_1 l0_1.length c0_1]] ?_; (with_reducible refine (attestorref02_Valid.calls k _ _ l0_0 _ _ l0_1 true _ ?side1 ?side2 ?side3 ?side4 A6.out).mono ?_); (case side1 => exact cU_ (C_below HR0_0.out HB.out)); (case side2 => exact HC0_0.out); (case side3 => exact cU_ (C_below HR0_1.out HB.out)); (case side4 => exact HC0_1.out); rintro e w11 ⟨rfl, hb⟩; refine ⟨_, rfl, ?_⟩; refine nx3_ (blk_below (kU_ BK1317.out) hb) (blk_below (kU_ BK1318.out) hb) (below_step sU_ hb) ?_; clear BK1317 BK1318 HB; intro BK1317 BK1318 HB; clear hb; have hcz12_0 := bc0_ BK1318.out; have hcz12_1 := bc1_ BK1318.out; have hfz12_0 := blk_frozen BK1318.out 0; have hfz12_1 := blk_frozen BK1318.out 1) | (go_at_call 38; (with_reducible refine (attestorref02_Valid.calls k _ _ l1_0 _ _ l1_1 t1320 _ ?side1 ?side2 ?side3 ?side4 A8.out).mono ?_); (case side1 => exact cU_ (C_below HR1_0.out HB.out)); (case side2 => exact HC1_0.out); (case side3 => exact cU_ (C_below HR1_1.out HB.out)); (case side4 => exact HC1_1.out); rintro e w13 ⟨rfl, hb⟩; refine nx3_ (blk_below (kU_ BK1317.out) hb) (blk_below (kU_ BK1318.out) hb) (below_step sU_ hb) ?_; clear BK1317 BK1318 HB; intro BK1317 BK1318 HB; clear hb))
   go_meet
   case rel => exact ⟨_, (!t1320), gb_, H', ⟨by first | omega | exact Nat.le_refl _⟩, ⟨by (with_reducible repeat (first | refine blk_drewN ?_ _ | refine blk_drew ?_ | refine blk_alloc ?_ _)); exact BK1317.out⟩, ⟨by (with_reducible repeat (first | refine blk_drewN ?_ _ | refine blk_drew ?_ | refine blk_alloc ?_ _)); exact BK1318.out⟩, ⟨sU_⟩⟩
  ·replace c7 := Bool.eq_false_iff.mpr c7
   subst c7
   rw [if_neg (show ¬ (false = true) by decide)] at H
   have H' := ak H
   clear H
   have hnb14 := NB1317_1318.out
   have hnc14 := NB1318_1317.out
   have hcz15_0 := bc0_ BK1317.out
   have hcz15_1 := bc1_ BK1317.out
   have hfz15_0 := blk_frozen BK1317.out 0
   have hfz15_1 := blk_frozen BK1317.out 1
   go_wp2_with (first | ((with_reducible refine gate_callee (f := 38) rfl ?_); refine gl_ (some 6) Tryd.func38 #[.agg #[.slice A0_0 l0_0.length c0_0, .slice A0_1 l0_1.length c0_1]] ?_; (with_reducible refine (attestorref02_Valid.calls k _ _ l0_0 _ _ l0_1 false _ ?side1 ?side2 ?side3 ?side4 A6.out).mono ?_); (case side1 => exact cU_ (C_below HR0_0.out HB.out)); (case side2 => exact HC0_0.out); (case side3 => exact cU_ (C_below HR0_1.out HB.out)); (case side4 => exact HC0_1.out); rintro e w16 ⟨rfl, hb⟩; refine ⟨_, rfl, ?_⟩; refine nx3_ (blk_below (kU_ BK1317.out) hb) (blk_below (kU_ BK1318.out) hb) (below_step sU_ hb) ?_; clear BK1317 BK1318 HB; intro BK1317 BK1318 HB; clear hb))
   go_meet
   case rel => exact ⟨_, (true), gb_, H', ⟨by first | omega | exact Nat.le_refl _⟩, ⟨by (with_reducible repeat (first | refine blk_drewN ?_ _ | refine blk_drew ?_ | refine blk_alloc ?_ _)); exact BK1317.out⟩, ⟨by (with_reducible repeat (first | refine blk_drewN ?_ _ | refine blk_drew ?_ | refine blk_alloc ?_ _)); exact BK1318.out⟩, ⟨sU_⟩⟩
 case rest =>
  clear HC3
  (try clear c1); (try clear p2); (try clear c3); (try clear c7); (try clear c9); (try clear c14); (try clear hcz10_0); (try clear hcz10_1); (try clear hcz12_0); (try clear hcz12_1); (try clear hcz15_0); (try clear hcz15_1); (try clear hfz10_0); (try clear hfz10_1); (try clear hfz12_0); (try clear hfz12_1); (try clear hfz15_0); (try clear hfz15_1)
  obtain ⟨kq, x12_2, rfl, HA, HJ2, BK1317, BK1318, HB⟩ := hcut
  cases kq with
  | zero => exact absurd HA.out (by simp [attestorref02_Order.j0])
  | succ kj2 =>
   have H := HA.out
   clear HA
   simp only [attestorref02_Order.j0] at H
   by_cases c17 : x12_2 = true
   ·subst c17
    rw [if_pos rfl] at H
    obtain rfl := Option.some.inj H
    go_wp2
    go_ret
    exact ⟨eW_, sU_⟩
   ·replace c17 := Bool.eq_false_iff.mpr c17
    subst c17
    rw [if_neg (show ¬ (false = true) by decide)] at H
    revert H
    refine bd_ fun t1321 A18 H => ?_
    revert H
    refine bd_ fun t1324 A19 H => ?_
    revert H
    refine bd_ fun t1327 A20 H => ?_
    obtain rfl := Option.some.inj H
    try go_wp2
    refine nx3_ (blk_drew BK1317.out) (blk_drew BK1318.out) (below_drew1 HB.out) ?_
    clear BK1317 BK1318 HB
    intro BK1317 BK1318 HB
    refine start_ (n := 12) (S := fun w' => w'.cell? ⟨gb1317, 0, none⟩ = some (.slice A0_0 l0_0.length c0_0) ∧ w'.cell? ⟨gb1317, 1, none⟩ = some (.slice A0_1 l0_1.length c0_1) ∧ w'.cell? ⟨gb1318, 0, none⟩ = some (.slice A1_0 l1_0.length c1_0) ∧ w'.cell? ⟨gb1318, 1, none⟩ = some (.slice A1_1 l1_1.length c1_1)) (ds := []) (bv 12 0) (by kernel_rfl) rfl rfl ⟨bc0_ BK1317.out, bc1_ BK1317.out, bc0_ BK1318.out, bc1_ BK1318.out⟩ (fun hHeld => ?_); refine with_tabW attestorref02_Order.tab3 attestorref02_Order.bits3 (fun HT_ HW_ => ?_)
    generalize wc.drew = w21 at BK1317 BK1318 HB hHeld ⊢
    refine pq_ 0 13 12 1 HT_.out ?_
    refine pq_ 2 15 12 5 HT_.out ?_
    refine pq_ 5 18 12 37 HT_.out ?_
    refine pq_ 7 20 12 165 HT_.out ?_
    refine tq_ 1 14 12 167 HT_.out HW_.out hHeld ?_
    refine tq_ 3 16 12 175 HT_.out HW_.out hHeld ?_
    refine tq_ 6 19 12 239 HT_.out HW_.out hHeld ?_
    refine tq_ 8 21 12 495 HT_.out HW_.out hHeld ?_
    refine oq_ 4 17 12 511 HT_.out fun K hK => ?_
    refine goes_ Tryd.func63 (by kernel_rfl) rfl #[.slice A0_0 l0_0.length c0_0, .slice A1_1 l1_1.length c1_1] (by rfl) rfl rfl ga_ ?_
    with_reducible refine (attestorref02_product.calls kj2 _ _ l0_0 _ _ l1_1 t1321 _ ?side1 ?side2 ?side3 ?side4 A18.out).mono ?_
    (case side1 => exact cU_ (C_below HR0_0.out HB.out))
    (case side2 => exact HC0_0.out)
    (case side3 => exact cU_ (C_below HR1_1.out HB.out))
    (case side4 => exact HC1_1.out)
    rintro e w22 ⟨v1322, rfl, ho0, hb⟩
    refine ⟨_, rfl, ?_⟩
    refine nx4_ (R_lower ho0 (below_size sU_)) (blk_below (kU_ BK1317.out) hb) (blk_below (kU_ BK1318.out) hb) (below_step sU_ hb) ?_
    clear BK1317 BK1318 HB
    intro HO1323 BK1317 BK1318 HB
    (try clear hb)
    (try clear hb2)
    (try clear hk)
    (try clear hi)
    (try clear ho0)
    refine hK.out _ _ ⟨bc0_ BK1317.out, bc1_ BK1317.out, bc0_ BK1318.out, bc1_ BK1318.out⟩ (fun hHeld => ?_)
    clear hK K
    refine norm_ (a' := ?_) ?_ ?_
    rotate_left
    ·show Act.put _ (some 17) _ = _
     simp only [Act.put, s1_, s2_, s3_, i64_w, i32_w]
     rfl
    refine oq_ 9 22 12 1023 HT_.out fun K hK => ?_
    refine goes_ Tryd.func63 (by kernel_rfl) rfl #[.slice A1_0 l1_0.length c1_0, .slice A0_1 l0_1.length c0_1] (by rfl) rfl rfl ga_ ?_
    with_reducible refine (attestorref02_product.calls kj2 _ _ l1_0 _ _ l0_1 t1324 _ ?side1 ?side2 ?side3 ?side4 A19.out).mono ?_
    (case side1 => exact cU_ (C_below HR1_0.out HB.out))
    (case side2 => exact HC1_0.out)
    (case side3 => exact cU_ (C_below HR0_1.out HB.out))
    (case side4 => exact HC0_1.out)
    rintro e w23 ⟨v1325, rfl, ho0, hb⟩
    refine ⟨_, rfl, ?_⟩
    refine nx5_ (R_elder' (rU_ HO1323.out) (R_base ho0) hb) (R_lower (R_new' ho0 (R_lt (rU_ HO1323.out))) (below_size sU_)) (blk_below (kU_ BK1317.out) hb) (blk_below (kU_ BK1318.out) hb) (below_step sU_ hb) ?_
    clear HO1323 BK1317 BK1318 HB
    intro HO1323 HO1326 BK1317 BK1318 HB
    (try clear hb)
    (try clear hb2)
    (try clear hk)
    (try clear hi)
    (try clear ho0)
    obtain ⟨Ao24, co24, eo24⟩ := R_slice HO1323.out
    (first | subst eo24 | (injection eo24 with f1_ f2_ f3_; have f4_ := f1_.symm; have f5_ := f3_.symm; clear f1_ f2_ f3_; subst f4_; subst f5_))
    obtain ⟨Ao25, co25, eo25⟩ := R_slice HO1326.out
    (first | subst eo25 | (injection eo25 with f1_ f2_ f3_; have f4_ := f1_.symm; have f5_ := f3_.symm; clear f1_ f2_ f3_; subst f4_; subst f5_))
    refine hK.out _ _ ⟨bc0_ BK1317.out, bc1_ BK1317.out, bc0_ BK1318.out, bc1_ BK1318.out⟩ (fun hHeld => ?_)
    clear hK K
    refine norm_ (a' := ?_) ?_ ?_
    rotate_left
    ·show Act.put _ (some 22) _ = _
     simp only [Act.put, s1_, s2_, s3_, i64_w, i32_w]
     rfl
    refine oq_ 10 23 12 2047 HT_.out fun K hK => ?_
    refine goes_ Tryd.func80 (by kernel_rfl) rfl #[.slice Ao24 t1321.length co24, .slice Ao25 t1324.length co25] (by rfl) rfl rfl ga_ ?_
    with_reducible refine (attestorref02_order.calls kj2 _ _ t1321 _ _ t1324 t1327 _ ?side1 ?side2 ?side3 ?side4 A20.out).mono ?_
    (case side1 => exact cU_ ((R_reads' HO1323.out).2.2))
    (case side2 => exact (R_reads' HO1323.out).2.1)
    (case side3 => exact cU_ ((R_reads' HO1326.out).2.2))
    (case side4 => exact (R_reads' HO1326.out).2.1)
    rintro e w' ⟨rfl, ⟨nd, rfl⟩⟩
    refine ⟨_, rfl, ?_⟩
    refine hK.out _ _ ⟨bc0_ BK1317.out, bc1_ BK1317.out, bc0_ BK1318.out, bc1_ BK1318.out⟩ (fun hHeld => ?_)
    clear hK K
    refine norm_ (a' := ?_) ?_ ?_
    rotate_left
    ·show Act.put _ (some 23) _ = _
     simp only [Act.put, s1_, s2_, s3_, i64_w, i32_w]
     rfl
    refine pq_ 11 4 12 4095 HT_.out ?_
    refine done_ (done_of HT_.out (by kernel_rfl)) ?_
    try go_wp2
    go_ret
    exact ⟨eW_, sU_⟩

def attestorref02_Show.f (k : Nat) (l0_0 : List Int) (l0_1 : List Int) : Option (ByteArray) := (attestorref02_Valid.f k l0_0 l0_1).bind fun t1329 => (if t1329 = true then ((attestorref02_Text.f k l0_0).bind fun t1330 => (if t1330.size + 1 ≤ 9223372036854775807 then ((attestorref02_Text.f k l0_1).bind fun t1331 => (if (t1330 ++ (⟨#[47]⟩ : ByteArray)).size + t1331.size ≤ 9223372036854775807 then (some ((t1330 ++ (⟨#[47]⟩ : ByteArray)) ++ t1331)) else (none))) else (none))) else (some (⟨#[]⟩ : ByteArray)))
def attestorref02_Show.T3 : Bool × List (List Nat × List Nat) := (true, [([], []), ([0], [0]), ([1], [1]), ([2], [2]), ([], []), ([4], [4]), ([5, 2], [5]), ([3, 6], [3, 6]), ([7, 6, 0, 1, 2, 3, 4, 5, 6, 7], [7])])
def attestorref02_Show.B3 : List Nat := [0, 1, 3, 7, 0, 16, 55, 127, 255]
theorem attestorref02_Show.tab3 : rtab .any (opsOf Tryd.f40 3) = attestorref02_Show.T3 := by kernel_rfl
theorem attestorref02_Show.bits3 : waitsOk attestorref02_Show.T3.2 attestorref02_Show.B3 = true := by kernel_rfl
set_option maxHeartbeats 8000000 in
set_option maxRecDepth 100000 in
theorem attestorref02_Show.calls (k : Nat) (A0_0 : Option Addr) (c0_0 : Nat) (l0_0 : List Int) (A0_1 : Option Addr) (c0_1 : Nat) (l0_1 : List Int) (r : ByteArray) (w : World) (hr0_0 : Kd.C (Kd.int .u32) w A0_0 l0_0.length l0_0) (hc0_0 : l0_0.length ≤ c0_0) (hr0_1 : Kd.C (Kd.int .u32) w A0_1 l0_1.length l0_1) (hc0_1 : l0_1.length ≤ c0_1) (h : attestorref02_Show.f k l0_0 l0_1 = some r) :
  Calls Tryd.prog 40 #[.agg #[.slice A0_0 l0_0.length c0_0, .slice A0_1 l0_1.length c0_1]] w fun e w' => e = .returned (.string r) ∧ Below w.heap.size w w' := by
 have hu29 := Tryd.underlying29
 have HR0_0 := ak hr0_0
 have HC0_0 := ak hc0_0
 clear hr0_0 hc0_0
 have HR0_1 := ak hr0_1
 have HC0_1 := ak hc0_1
 clear hr0_1 hc0_1
 have HB := ak (Below.refl w.heap.size w)
 have H := h
 clear h
 unfold attestorref02_Show.f at H
 revert H
 refine bd_ fun t1329 A2 H => ?_
 by_cases c3 : t1329 = true
 ·subst c3
  rw [if_pos rfl] at H
  revert H
  refine bd_ fun t1330 A4 H => ?_
  obtain ⟨c5, H⟩ : (t1330.size + 1 ≤ 9223372036854775807) ∧ _ := it_ H
  have c5b0 := eq_true c5
  have c5b1 := decide_eq_true c5
  try have c5b2 : (9223372036854775807 < t1330.size + 1) = False := eq_false (Nat.not_lt.2 c5)
  revert H
  refine bd_ fun t1331 A6 H => ?_
  obtain ⟨c7, H⟩ : ((t1330 ++ (⟨#[47]⟩ : ByteArray)).size + t1331.size ≤ 9223372036854775807) ∧ _ := it_ H
  have c7b0 := eq_true c7
  have c7b1 := decide_eq_true c7
  try have c7b2 : (9223372036854775807 < (t1330 ++ (⟨#[47]⟩ : ByteArray)).size + t1331.size) = False := eq_false (Nat.not_lt.2 c7)
  have c7b3 : (9223372036854775807 < t1330.size + 1 + t1331.size) = False := by have h_ := c7b2; rw [ByteArray.size_append] at h_; exact h_
  obtain rfl := Option.some.inj H
  go_enter Tryd.func40, Tryd.ntmps40
  try go_wp2_with (first | ((with_reducible refine gate_dst (N := 1) rfl ?_); refine bx_ 1 29 #[.slice A0_0 l0_0.length c0_0, .slice A0_1 l0_1.length c0_1] ?_; intro gb1328 hg w8 hbox hb; refine nx4_ (below_step (bU_ HB.out) hb) (hbox) ((hs_ hg (below_size (bU_ HB.out)))) ((hs_ hg (below_size (bU_ HB.out)))) ?_; clear HB; intro HB BK1328 GW1328 GE1328; clear hb hbox hg; have hcz9_0 := bc0_ BK1328.out; have hcz9_1 := bc1_ BK1328.out; have hfz9_0 := blk_frozen BK1328.out 0; have hfz9_1 := blk_frozen BK1328.out 1) | ((with_reducible refine gate_callee (f := 38) rfl ?_); refine gl_ (some 4) Tryd.func38 #[.agg #[.slice A0_0 l0_0.length c0_0, .slice A0_1 l0_1.length c0_1]] ?_; (with_reducible refine (attestorref02_Valid.calls k _ _ l0_0 _ _ l0_1 true _ ?side1 ?side2 ?side3 ?side4 A2.out).mono ?_); (case side1 => exact cU_ (C_below HR0_0.out HB.out)); (case side2 => exact HC0_0.out); (case side3 => exact cU_ (C_below HR0_1.out HB.out)); (case side4 => exact HC0_1.out); rintro e w10 ⟨rfl, hb⟩; refine ⟨_, rfl, ?_⟩; refine nx2_ (blk_below (kU_ BK1328.out) hb) (below_step sU_ hb) ?_; clear BK1328 HB; intro BK1328 HB; clear hb))
  refine nx2_ (blk_drew BK1328.out) (below_drew1 HB.out) ?_
  clear BK1328 HB
  intro BK1328 HB
  refine start_ (n := 9) (S := fun w' => w'.cell? ⟨gb1328, 0, none⟩ = some (.slice A0_0 l0_0.length c0_0) ∧ w'.cell? ⟨gb1328, 1, none⟩ = some (.slice A0_1 l0_1.length c0_1)) (ds := []) (bv 9 0) (by kernel_rfl) rfl rfl ⟨bc0_ BK1328.out, bc1_ BK1328.out⟩ (fun hHeld => ?_); refine with_tabW attestorref02_Show.tab3 attestorref02_Show.bits3 (fun HT_ HW_ => ?_)
  generalize w10.drew = w11 at BK1328 HB hHeld ⊢
  refine pq_ 0 6 9 1 HT_.out ?_
  refine pq_ 4 10 9 17 HT_.out ?_
  refine tq_ 1 7 9 19 HT_.out HW_.out hHeld ?_
  refine tq_ 5 11 9 51 HT_.out HW_.out hHeld ?_
  refine oq_ 2 8 9 55 HT_.out fun K hK => ?_
  refine goes_ Tryd.func50 (by kernel_rfl) rfl #[.slice A0_0 l0_0.length c0_0] (by rfl) rfl rfl ga_ ?_
  with_reducible refine (attestorref02_Text.calls k (fun k_ => k_ < w.heap.size) _ _ l0_0 t1330 _ ?side1 A4.out).mono ?_
  (case side1 => exact V_mk HC0_0.out (F_below (C_F (heap_int .u32) HR0_0.out) sU_))
  rintro e w12 ⟨rfl, hb⟩
  refine ⟨_, rfl, ?_⟩
  refine nx2_ (blk_below (kU_ BK1328.out) hb) (below_step sU_ hb) ?_
  clear BK1328 HB
  intro BK1328 HB
  (try clear hb)
  (try clear hb2)
  (try clear hk)
  (try clear hi)
  refine hK.out _ _ ⟨bc0_ BK1328.out, bc1_ BK1328.out⟩ (fun hHeld => ?_)
  clear hK K
  refine norm_ (a' := ?_) ?_ ?_
  rotate_left
  ·show Act.put _ (some 8) _ = _
   simp only [Act.put, s1_, s2_, s3_, i64_w, i32_w]
   rfl
  refine pq_ 3 9 9 63 HT_.out ?_
  refine oq_ 6 12 9 127 HT_.out fun K hK => ?_
  refine goes_ Tryd.func50 (by kernel_rfl) rfl #[.slice A0_1 l0_1.length c0_1] (by rfl) rfl rfl ga_ ?_
  with_reducible refine (attestorref02_Text.calls k (fun k_ => k_ < w.heap.size) _ _ l0_1 t1331 _ ?side1 A6.out).mono ?_
  (case side1 => exact V_mk HC0_1.out (F_below (C_F (heap_int .u32) HR0_1.out) sU_))
  rintro e w13 ⟨rfl, hb⟩
  refine ⟨_, rfl, ?_⟩
  refine nx2_ (blk_below (kU_ BK1328.out) hb) (below_step sU_ hb) ?_
  clear BK1328 HB
  intro BK1328 HB
  (try clear hb)
  (try clear hb2)
  (try clear hk)
  (try clear hi)
  refine hK.out _ _ ⟨bc0_ BK1328.out, bc1_ BK1328.out⟩ (fun hHeld => ?_)
  clear hK K
  refine norm_ (a' := ?_) ?_ ?_
  rotate_left
  ·show Act.put _ (some 12) _ = _
   simp only [Act.put, s1_, s2_, s3_, i64_w, i32_w]
   rfl
  refine pq_ 7 13 9 255 HT_.out ?_
  refine pq_ 8 2 9 511 HT_.out ?_
  refine done_ (done_of HT_.out (by kernel_rfl)) ?_
  try go_wp2
  go_ret
  exact ⟨eW_, sU_⟩
 ·replace c3 := Bool.eq_false_iff.mpr c3
  subst c3
  rw [if_neg (show ¬ (false = true) by decide)] at H
  obtain rfl := Option.some.inj H
  go_enter Tryd.func40, Tryd.ntmps40
  go_wp2_with (first | ((with_reducible refine gate_dst (N := 1) rfl ?_); refine bx_ 1 29 #[.slice A0_0 l0_0.length c0_0, .slice A0_1 l0_1.length c0_1] ?_; intro gb1328 hg w14 hbox hb; refine nx4_ (below_step (bU_ HB.out) hb) (hbox) ((hs_ hg (below_size (bU_ HB.out)))) ((hs_ hg (below_size (bU_ HB.out)))) ?_; clear HB; intro HB BK1328 GW1328 GE1328; clear hb hbox hg; have hcz15_0 := bc0_ BK1328.out; have hcz15_1 := bc1_ BK1328.out; have hfz15_0 := blk_frozen BK1328.out 0; have hfz15_1 := blk_frozen BK1328.out 1) | ((with_reducible refine gate_callee (f := 38) rfl ?_); refine gl_ (some 4) Tryd.func38 #[.agg #[.slice A0_0 l0_0.length c0_0, .slice A0_1 l0_1.length c0_1]] ?_; (with_reducible refine (attestorref02_Valid.calls k _ _ l0_0 _ _ l0_1 false _ ?side1 ?side2 ?side3 ?side4 A2.out).mono ?_); (case side1 => exact cU_ (C_below HR0_0.out HB.out)); (case side2 => exact HC0_0.out); (case side3 => exact cU_ (C_below HR0_1.out HB.out)); (case side4 => exact HC0_1.out); rintro e w16 ⟨rfl, hb⟩; refine ⟨_, rfl, ?_⟩; refine nx2_ (blk_below (kU_ BK1328.out) hb) (below_step sU_ hb) ?_; clear BK1328 HB; intro BK1328 HB; clear hb))
  go_ret
  exact ⟨eW_, sU_⟩

def attestorref02_Add.j0 : Nat → Bool → List Int → List Int → List Int → List Int → Option (List Int × List Int × Int)
 | 0, _, _, _, _, _ => none
 | k + 1, x13, x1333000, x1333001, x1334000, x1334001 => if x13 = true then (some (([] : List Int), ([] : List Int), 1)) else ((attestorref02_product.f k x1333000 x1334001).bind fun t1337 => ((attestorref02_product.f k x1334000 x1333001).bind fun t1340 => ((attestorref02_sum.f k t1337 t1340).bind fun t1343 => ((attestorref02_product.f k x1333001 x1334001).bind fun t1346 => ((attestorref02_lowest.f k t1343 t1346).bind fun bt1349 => (some (bt1349.1, bt1349.2.1, bt1349.2.2)))))))
def attestorref02_Add.f (k : Nat) (l0_0 : List Int) (l0_1 : List Int) (l1_0 : List Int) (l1_1 : List Int) : Option (List Int × List Int × Int) := (attestorref02_Valid.f k l0_0 l0_1).bind fun t1335 => (if t1335 = true then ((attestorref02_Valid.f k l1_0 l1_1).bind fun t1336 => (attestorref02_Add.j0 k (!t1336) l0_0 l0_1 l1_0 l1_1)) else (attestorref02_Add.j0 k true l0_0 l0_1 l1_0 l1_1))
def attestorref02_Add.T3 : Bool × List (List Nat × List Nat) := (true, [([], []), ([0], [0]), ([], []), ([2], [2]), ([1, 3], [1, 3]), ([], []), ([5], [5]), ([], []), ([7], [7]), ([6, 8, 4], [6, 8]), ([4, 9, 9], [4, 9]), ([], []), ([11], [11]), ([], []), ([13], [13]), ([12, 14, 10], [12, 14]), ([10, 15, 15], [10, 15]), ([16], [16]), ([16], [16]), ([17, 16, 0, 1, 2, 3, 4, 5, 6, 7, 8, 9, 10, 11, 12, 13, 14, 15, 16, 17, 18], [17]), ([18, 19, 0, 1, 2, 3, 4, 5, 6, 7, 8, 9, 10, 11, 12, 13, 14, 15, 16, 17, 18, 19], [18])])
def attestorref02_Add.B3 : List Nat := [0, 1, 0, 4, 15, 0, 32, 0, 128, 511, 1023, 0, 2048, 0, 8192, 32767, 65535, 131071, 131071, 524287, 1048575]
theorem attestorref02_Add.tab3 : rtab .any (opsOf Tryd.f42 3) = attestorref02_Add.T3 := by kernel_rfl
theorem attestorref02_Add.bits3 : waitsOk attestorref02_Add.T3.2 attestorref02_Add.B3 = true := by kernel_rfl
set_option maxHeartbeats 8000000 in
set_option maxRecDepth 100000 in
theorem attestorref02_Add.calls (k : Nat) (A0_0 : Option Addr) (c0_0 : Nat) (l0_0 : List Int) (A0_1 : Option Addr) (c0_1 : Nat) (l0_1 : List Int) (A1_0 : Option Addr) (c1_0 : Nat) (l1_0 : List Int) (A1_1 : Option Addr) (c1_1 : Nat) (l1_1 : List Int) (r1 : List Int) (r2 : List Int) (r3 : Int) (w : World) (hr0_0 : Kd.C (Kd.int .u32) w A0_0 l0_0.length l0_0) (hc0_0 : l0_0.length ≤ c0_0) (hr0_1 : Kd.C (Kd.int .u32) w A0_1 l0_1.length l0_1) (hc0_1 : l0_1.length ≤ c0_1) (hr1_0 : Kd.C (Kd.int .u32) w A1_0 l1_0.length l1_0) (hc1_0 : l1_0.length ≤ c1_0) (hr1_1 : Kd.C (Kd.int .u32) w A1_1 l1_1.length l1_1) (hc1_1 : l1_1.length ≤ c1_1) (h : attestorref02_Add.f k l0_0 l0_1 l1_0 l1_1 = some (r1, r2, r3)) :
  Calls Tryd.prog 42 #[.agg #[.slice A0_0 l0_0.length c0_0, .slice A0_1 l0_1.length c0_1], .agg #[.slice A1_0 l1_0.length c1_0, .slice A1_1 l1_1.length c1_1]] w fun e w' => ∃ v0_ v1_ : Value, e = .returned (.tuple #[.agg #[v0_, v1_], .int .i64 r3]) ∧ Kd.R (Kd.int .u32) 44 w' w.heap.size (fun k_ => some k_ ≠ (v1_ : Value).ownBlock) v0_ r1 ∧ Kd.R (Kd.int .u32) 44 w' w.heap.size (fun k_ => some k_ ≠ (v0_ : Value).ownBlock) v1_ r2 ∧ Below w.heap.size w w' := by
 have hu29 := Tryd.underlying29
 have HR0_0 := ak hr0_0
 have HC0_0 := ak hc0_0
 clear hr0_0 hc0_0
 have HR0_1 := ak hr0_1
 have HC0_1 := ak hc0_1
 clear hr0_1 hc0_1
 have HR1_0 := ak hr1_0
 have HC1_0 := ak hc1_0
 clear hr1_0 hc1_0
 have HR1_1 := ak hr1_1
 have HC1_1 := ak hc1_1
 clear hr1_1 hc1_1
 have HB := ak (Below.refl w.heap.size w)
 have H := h
 clear h
 unfold attestorref02_Add.f at H
 have HC3 := ak H
 clear H
 go_enter Tryd.func42, Tryd.ntmps42
 go_upto_region 1 with (first | ((with_reducible refine gate_dst (N := 2) rfl ?_); refine bx_ 2 29 #[.slice A0_0 l0_0.length c0_0, .slice A0_1 l0_1.length c0_1] ?_; intro gb1332 hg w4 hbox hb; refine nx4_ (below_step (bU_ HB.out) hb) (hbox) ((hs_ hg (below_size (bU_ HB.out)))) ((hs_ hg (below_size (bU_ HB.out)))) ?_; clear HB; intro HB BK1332 GW1332 GE1332; clear hb hbox hg) | ((with_reducible refine gate_dst (N := 3) rfl ?_); refine bx_ 3 29 #[.slice A1_0 l1_0.length c1_0, .slice A1_1 l1_1.length c1_1] ?_; intro gb1333 hg w5 hbox hb; refine nx7_ (blk_below (kU_ BK1332.out) hb) (below_step sU_ hb) (hbox) ((hs_ hg (below_size sU_) : w.heap.size ≤ gb1333)) ((hs_ hg (below_size sU_) : w.heap.size ≤ gb1333)) ((hl_ hg (kU_ BK1332.out))) ((hm_ hg (kU_ BK1332.out))) ?_; clear BK1332 HB; intro BK1332 HB BK1333 GW1333 GE1333 NB1332_1333 NB1333_1332; clear hb hbox hg) | ((with_reducible refine gate_dst (N := 4) rfl ?_); refine bx_ 4 29 #[.slice none 0 0, .slice none 0 0] ?_; intro gb1334 hg w6 hbox hb; refine nx10_ (blk_below (kU_ BK1332.out) hb) (blk_below (kU_ BK1333.out) hb) (below_step sU_ hb) (hbox) ((hs_ hg (below_size sU_) : w.heap.size ≤ gb1334)) ((hs_ hg (below_size sU_) : w.heap.size ≤ gb1334)) ((hl_ hg (kU_ BK1332.out))) ((hm_ hg (kU_ BK1332.out))) ((hl_ hg (kU_ BK1333.out))) ((hm_ hg (kU_ BK1333.out))) ?_; clear BK1332 BK1333 HB; intro BK1332 BK1333 HB BK1334 GW1334 GE1334 NB1332_1334 NB1334_1332 NB1333_1334 NB1334_1333; clear hb hbox hg))
 (try simp only [Act.put, s1_, s2_, s3_])
 go_cut [13] (fun v13 wc => ∃ (kq : Nat) (x13_2 : Bool), v13 = .bool x13_2 ∧ Aside0 (attestorref02_Add.j0 kq x13_2 l0_0 l0_1 l1_0 l1_1 = some (r1, r2, r3)) ∧ Aside0 (kq ≤ k) ∧ Aside0 (wc.heap[gb1332]? = some (.cells #[(.slice A0_0 l0_0.length c0_0), (.slice A0_1 l0_1.length c0_1)] 29 (0, 0))) ∧ Aside0 (wc.heap[gb1333]? = some (.cells #[(.slice A1_0 l1_0.length c1_0), (.slice A1_1 l1_1.length c1_1)] 29 (0, 0))) ∧ Aside0 (wc.heap[gb1334]? = some (.cells #[(.slice none 0 0), (.slice none 0 0)] 29 (0, 0))) ∧ Aside0 (Below w.heap.size w wc))
 case first =>
  have H := HC3.out
  clear HC3
  revert H
  refine bd_ fun t1335 A7 H => ?_
  by_cases c8 : t1335 = true
  ·subst c8
   rw [if_pos rfl] at H
   revert H
   refine bd_ fun t1336 A9 H => ?_
   have H' := ak H
   clear H
   have hnb10 := NB1332_1333.out
   have hnc10 := NB1333_1332.out
   have hnb11 := NB1332_1334.out
   have hnc11 := NB1334_1332.out
   have hcz12_0 := bc0_ BK1332.out
   have hcz12_1 := bc1_ BK1332.out
   have hfz12_0 := blk_frozen BK1332.out 0
   have hfz12_1 := blk_frozen BK1332.out 1
   go_wp2_with (first | ((with_reducible refine gate_callee (f := 38) rfl ?_); refine gl_ (some 7) Tryd.func38 #[.agg #[.slice A0_0 l0_0.length c0_0, .slice A0_1 l0_1.length c0_1]] ?_; (with_reducible refine (attestorref02_Valid.calls k _ _ l0_0 _ _ l0_1 true _ ?side1 ?side2 ?side3 ?side4 A7.out).mono ?_); (case side1 => exact cU_ (C_below HR0_0.out HB.out)); (case side2 => exact HC0_0.out); (case side3 => exact cU_ (C_below HR0_1.out HB.out)); (case side4 => exact HC0_1.out); rintro e w13 ⟨rfl, hb⟩; refine ⟨_, rfl, ?_⟩; refine nx4_ (blk_below (kU_ BK1332.out) hb) (blk_below (kU_ BK1333.out) hb) (blk_below (kU_ BK1334.out) hb) (below_step sU_ hb) ?_; clear BK1332 BK1333 BK1334 HB; intro BK1332 BK1333 BK1334 HB; clear hb; have hnb14 := NB1333_1334.out; have hnc14 := NB1334_1333.out; have hcz15_0 := bc0_ BK1333.out; have hcz15_1 := bc1_ BK1333.out; have hfz15_0 := blk_frozen BK1333.out 0; have hfz15_1 := blk_frozen BK1333.out 1) | (go_at_call 38; (with_reducible refine (attestorref02_Valid.calls k _ _ l1_0 _ _ l1_1 t1336 _ ?side1 ?side2 ?side3 ?side4 A9.out).mono ?_); (case side1 => exact cU_ (C_below HR1_0.out HB.out)); (case side2 => exact HC1_0.out); (case side3 => exact cU_ (C_below HR1_1.out HB.out)); (case side4 => exact HC1_1.out); rintro e w16 ⟨rfl, hb⟩; refine nx4_ (blk_below (kU_ BK1332.out) hb) (blk_below (kU_ BK1333.out) hb) (blk_below (kU_ BK1334.out) hb) (below_step sU_ hb) ?_; clear BK1332 BK1333 BK1334 HB; intro BK1332 BK1333 BK1334 HB; clear hb))
   go_meet
   case rel => exact ⟨_, (!t1336), gb_, H', ⟨by first | omega | exact Nat.le_refl _⟩, ⟨by (with_reducible repeat (first | refine blk_drewN ?_ _ | refine blk_drew ?_ | refine blk_alloc ?_ _)); exact BK1332.out⟩, ⟨by (with_reducible repeat (first | refine blk_drewN ?_ _ | refine blk_drew ?_ | refine blk_alloc ?_ _)); exact BK1333.out⟩, ⟨by (with_reducible repeat (first | refine blk_drewN ?_ _ | refine blk_drew ?_ | refine blk_alloc ?_ _)); exact BK1334.out⟩, ⟨sU_⟩⟩
  ·replace c8 := Bool.eq_false_iff.mpr c8
   subst c8
   rw [if_neg (show ¬ (false = true) by decide)] at H
   have H' := ak H
   clear H
   have hnb17 := NB1332_1333.out
   have hnc17 := NB1333_1332.out
   have hnb18 := NB1332_1334.out
   have hnc18 := NB1334_1332.out
   have hcz19_0 := bc0_ BK1332.out
   have hcz19_1 := bc1_ BK1332.out
   have hfz19_0 := blk_frozen BK1332.out 0
   have hfz19_1 := blk_frozen BK1332.out 1
   go_wp2_with (first | ((with_reducible refine gate_callee (f := 38) rfl ?_); refine gl_ (some 7) Tryd.func38 #[.agg #[.slice A0_0 l0_0.length c0_0, .slice A0_1 l0_1.length c0_1]] ?_; (with_reducible refine (attestorref02_Valid.calls k _ _ l0_0 _ _ l0_1 false _ ?side1 ?side2 ?side3 ?side4 A7.out).mono ?_); (case side1 => exact cU_ (C_below HR0_0.out HB.out)); (case side2 => exact HC0_0.out); (case side3 => exact cU_ (C_below HR0_1.out HB.out)); (case side4 => exact HC0_1.out); rintro e w20 ⟨rfl, hb⟩; refine ⟨_, rfl, ?_⟩; refine nx4_ (blk_below (kU_ BK1332.out) hb) (blk_below (kU_ BK1333.out) hb) (blk_below (kU_ BK1334.out) hb) (below_step sU_ hb) ?_; clear BK1332 BK1333 BK1334 HB; intro BK1332 BK1333 BK1334 HB; clear hb))
   go_meet
   case rel => exact ⟨_, (true), gb_, H', ⟨by first | omega | exact Nat.le_refl _⟩, ⟨by (with_reducible repeat (first | refine blk_drewN ?_ _ | refine blk_drew ?_ | refine blk_alloc ?_ _)); exact BK1332.out⟩, ⟨by (with_reducible repeat (first | refine blk_drewN ?_ _ | refine blk_drew ?_ | refine blk_alloc ?_ _)); exact BK1333.out⟩, ⟨by (with_reducible repeat (first | refine blk_drewN ?_ _ | refine blk_drew ?_ | refine blk_alloc ?_ _)); exact BK1334.out⟩, ⟨sU_⟩⟩
 case rest =>
  clear HC3
  (try clear c1); (try clear p2); (try clear c3); (try clear c4); (try clear c8); (try clear c10); (try clear c11); (try clear c14); (try clear c17); (try clear c18); (try clear hcz12_0); (try clear hcz12_1); (try clear hcz15_0); (try clear hcz15_1); (try clear hcz19_0); (try clear hcz19_1); (try clear hfz12_0); (try clear hfz12_1); (try clear hfz15_0); (try clear hfz15_1); (try clear hfz19_0); (try clear hfz19_1)
  obtain ⟨kq, x13_2, rfl, HA, HJ2, BK1332, BK1333, BK1334, HB⟩ := hcut
  cases kq with
  | zero => exact absurd HA.out (by simp [attestorref02_Add.j0])
  | succ kj2 =>
   have H := HA.out
   clear HA
   simp only [attestorref02_Add.j0] at H
   by_cases c21 : x13_2 = true
   ·subst c21
    rw [if_pos rfl] at H
    simp only [Option.some.injEq, Prod.mk.injEq] at H
    obtain ⟨rfl, rfl, rfl⟩ := H
    have hnb22 := NB1334_1332.out
    have hnc22 := NB1332_1334.out
    have hnb23 := NB1334_1333.out
    have hnc23 := NB1333_1334.out
    have hcz24_0 := bc0_ BK1334.out
    have hcz24_1 := bc1_ BK1334.out
    have hfz24_0 := blk_frozen BK1334.out 0
    have hfz24_1 := blk_frozen BK1334.out 1
    go_wp2
    refine bodyPost_ret (results_ct rfl _ _ gb1334 29 #[.slice none 0 0, .slice none 0 0] (0, 0) _ rfl kp_ Tryd.underlying29 rfl (by kernel_rfl)) rfl ?_
    exact ⟨_, _, eW_, by first | exact Kd.R_nil _ _ _ _ _ | exact Kd.N_nil _ _ _ _ _ | exact Kd.V_nil _ _ _ _ _ | exact Kd.Q_nil _ _ _ _ _ | exact Kd.S_nil _ _ _ _ _, by first | exact Kd.R_nil _ _ _ _ _ | exact Kd.N_nil _ _ _ _ _ | exact Kd.V_nil _ _ _ _ _ | exact Kd.Q_nil _ _ _ _ _ | exact Kd.S_nil _ _ _ _ _, sU_⟩
   ·replace c21 := Bool.eq_false_iff.mpr c21
    subst c21
    rw [if_neg (show ¬ (false = true) by decide)] at H
    revert H
    refine bd_ fun t1337 A25 H => ?_
    revert H
    refine bd_ fun t1340 A26 H => ?_
    revert H
    refine bd_ fun t1343 A27 H => ?_
    revert H
    refine bd_ fun t1346 A28 H => ?_
    revert H
    refine bd3_ fun t1349 t1352 t1355 A29 H => ?_
    try dsimp only at H
    simp only [Option.some.injEq, Prod.mk.injEq] at H
    obtain ⟨rfl, rfl, rfl⟩ := H
    try go_wp2
    refine nx4_ (blk_drew BK1332.out) (blk_drew BK1333.out) (blk_drew BK1334.out) (below_drew1 HB.out) ?_
    clear BK1332 BK1333 BK1334 HB
    intro BK1332 BK1333 BK1334 HB
    refine start_ (n := 21) (S := fun w' => w'.cell? ⟨gb1332, 0, none⟩ = some (.slice A0_0 l0_0.length c0_0) ∧ w'.cell? ⟨gb1332, 1, none⟩ = some (.slice A0_1 l0_1.length c0_1) ∧ w'.cell? ⟨gb1333, 0, none⟩ = some (.slice A1_0 l1_0.length c1_0) ∧ w'.cell? ⟨gb1333, 1, none⟩ = some (.slice A1_1 l1_1.length c1_1)) (ds := []) (bv 21 0) (by kernel_rfl) rfl rfl ⟨bc0_ BK1332.out, bc1_ BK1332.out, bc0_ BK1333.out, bc1_ BK1333.out⟩ (fun hHeld => ?_); refine with_tabW attestorref02_Add.tab3 attestorref02_Add.bits3 (fun HT_ HW_ => ?_)
    generalize wc.drew = w30 at BK1332 BK1333 BK1334 HB hHeld ⊢
    refine pq_ 0 15 21 1 HT_.out ?_
    refine pq_ 2 17 21 5 HT_.out ?_
    refine pq_ 5 20 21 37 HT_.out ?_
    refine pq_ 7 22 21 165 HT_.out ?_
    refine pq_ 11 26 21 2213 HT_.out ?_
    refine pq_ 13 28 21 10405 HT_.out ?_
    refine tq_ 1 16 21 10407 HT_.out HW_.out hHeld ?_
    refine tq_ 3 18 21 10415 HT_.out HW_.out hHeld ?_
    refine tq_ 6 21 21 10479 HT_.out HW_.out hHeld ?_
    refine tq_ 8 23 21 10735 HT_.out HW_.out hHeld ?_
    refine tq_ 12 27 21 14831 HT_.out HW_.out hHeld ?_
    refine tq_ 14 29 21 31215 HT_.out HW_.out hHeld ?_
    refine oq_ 4 19 21 31231 HT_.out fun K hK => ?_
    refine goes_ Tryd.func63 (by kernel_rfl) rfl #[.slice A0_0 l0_0.length c0_0, .slice A1_1 l1_1.length c1_1] (by rfl) rfl rfl ga_ ?_
    with_reducible refine (attestorref02_product.calls kj2 _ _ l0_0 _ _ l1_1 t1337 _ ?side1 ?side2 ?side3 ?side4 A25.out).mono ?_
    (case side1 => exact cU_ (C_below HR0_0.out HB.out))
    (case side2 => exact HC0_0.out)
    (case side3 => exact cU_ (C_below HR1_1.out HB.out))
    (case side4 => exact HC1_1.out)
    rintro e w31 ⟨v1338, rfl, ho0, hb⟩
    refine ⟨_, rfl, ?_⟩
    refine nx5_ (R_lower ho0 (below_size sU_)) (blk_below (kU_ BK1332.out) hb) (blk_below (kU_ BK1333.out) hb) (blk_below (kU_ BK1334.out) hb) (below_step sU_ hb) ?_
    clear BK1332 BK1333 BK1334 HB
    intro HO1339 BK1332 BK1333 BK1334 HB
    (try clear hb)
    (try clear hb2)
    (try clear hk)
    (try clear hi)
    (try clear ho0)
    refine hK.out _ _ ⟨bc0_ BK1332.out, bc1_ BK1332.out, bc0_ BK1333.out, bc1_ BK1333.out⟩ (fun hHeld => ?_)
    clear hK K
    refine norm_ (a' := ?_) ?_ ?_
    rotate_left
    ·show Act.put _ (some 19) _ = _
     simp only [Act.put, s1_, s2_, s3_, i64_w, i32_w]
     rfl
    refine oq_ 9 24 21 31743 HT_.out fun K hK => ?_
    refine goes_ Tryd.func63 (by kernel_rfl) rfl #[.slice A1_0 l1_0.length c1_0, .slice A0_1 l0_1.length c0_1] (by rfl) rfl rfl ga_ ?_
    with_reducible refine (attestorref02_product.calls kj2 _ _ l1_0 _ _ l0_1 t1340 _ ?side1 ?side2 ?side3 ?side4 A26.out).mono ?_
    (case side1 => exact cU_ (C_below HR1_0.out HB.out))
    (case side2 => exact HC1_0.out)
    (case side3 => exact cU_ (C_below HR0_1.out HB.out))
    (case side4 => exact HC0_1.out)
    rintro e w32 ⟨v1341, rfl, ho0, hb⟩
    refine ⟨_, rfl, ?_⟩
    refine nx6_ (R_elder' (rU_ HO1339.out) (R_base ho0) hb) (R_lower (R_new' ho0 (R_lt (rU_ HO1339.out))) (below_size sU_)) (blk_below (kU_ BK1332.out) hb) (blk_below (kU_ BK1333.out) hb) (blk_below (kU_ BK1334.out) hb) (below_step sU_ hb) ?_
    clear HO1339 BK1332 BK1333 BK1334 HB
    intro HO1339 HO1342 BK1332 BK1333 BK1334 HB
    (try clear hb)
    (try clear hb2)
    (try clear hk)
    (try clear hi)
    (try clear ho0)
    obtain ⟨Ao33, co33, eo33⟩ := R_slice HO1339.out
    (first | subst eo33 | (injection eo33 with f1_ f2_ f3_; have f4_ := f1_.symm; have f5_ := f3_.symm; clear f1_ f2_ f3_; subst f4_; subst f5_))
    obtain ⟨Ao34, co34, eo34⟩ := R_slice HO1342.out
    (first | subst eo34 | (injection eo34 with f1_ f2_ f3_; have f4_ := f1_.symm; have f5_ := f3_.symm; clear f1_ f2_ f3_; subst f4_; subst f5_))
    refine hK.out _ _ ⟨bc0_ BK1332.out, bc1_ BK1332.out, bc0_ BK1333.out, bc1_ BK1333.out⟩ (fun hHeld => ?_)
    clear hK K
    refine norm_ (a' := ?_) ?_ ?_
    rotate_left
    ·show Act.put _ (some 24) _ = _
     simp only [Act.put, s1_, s2_, s3_, i64_w, i32_w]
     rfl
    refine oq_ 10 25 21 32767 HT_.out fun K hK => ?_
    refine goes_ Tryd.func62 (by kernel_rfl) rfl #[.slice Ao33 t1337.length co33, .slice Ao34 t1340.length co34] (by rfl) rfl rfl ga_ ?_
    with_reducible refine (attestorref02_sum.calls kj2 _ _ t1337 _ _ t1340 t1343 _ ?side1 ?side2 ?side3 ?side4 A27.out).mono ?_
    (case side1 => exact cU_ ((R_reads' HO1339.out).2.2))
    (case side2 => exact (R_reads' HO1339.out).2.1)
    (case side3 => exact cU_ ((R_reads' HO1342.out).2.2))
    (case side4 => exact (R_reads' HO1342.out).2.1)
    rintro e w35 ⟨v1344, rfl, ho0, hb⟩
    refine ⟨_, rfl, ?_⟩
    refine nx7_ (R_elder' (rU_ HO1339.out) (R_base ho0) hb) (R_elder' (rU_ HO1342.out) (R_base ho0) hb) (R_lower (R_new' (R_new' ho0 (R_lt (rU_ HO1339.out))) (R_lt (rU_ HO1342.out))) (below_size sU_)) (blk_below (kU_ BK1332.out) hb) (blk_below (kU_ BK1333.out) hb) (blk_below (kU_ BK1334.out) hb) (below_step sU_ hb) ?_
    clear HO1339 HO1342 BK1332 BK1333 BK1334 HB
    intro HO1339 HO1342 HO1345 BK1332 BK1333 BK1334 HB
    (try clear hb)
    (try clear hb2)
    (try clear hk)
    (try clear hi)
    (try clear ho0)
    refine hK.out _ _ ⟨bc0_ BK1332.out, bc1_ BK1332.out, bc0_ BK1333.out, bc1_ BK1333.out⟩ (fun hHeld => ?_)
    clear hK K
    refine norm_ (a' := ?_) ?_ ?_
    rotate_left
    ·show Act.put _ (some 25) _ = _
     simp only [Act.put, s1_, s2_, s3_, i64_w, i32_w]
     rfl
    refine oq_ 15 30 21 65535 HT_.out fun K hK => ?_
    refine goes_ Tryd.func63 (by kernel_rfl) rfl #[.slice A0_1 l0_1.length c0_1, .slice A1_1 l1_1.length c1_1] (by rfl) rfl rfl ga_ ?_
    with_reducible refine (attestorref02_product.calls kj2 _ _ l0_1 _ _ l1_1 t1346 _ ?side1 ?side2 ?side3 ?side4 A28.out).mono ?_
    (case side1 => exact cU_ (C_below HR0_1.out HB.out))
    (case side2 => exact HC0_1.out)
    (case side3 => exact cU_ (C_below HR1_1.out HB.out))
    (case side4 => exact HC1_1.out)
    rintro e w36 ⟨v1347, rfl, ho0, hb⟩
    refine ⟨_, rfl, ?_⟩
    refine nx8_ (R_elder' (rU_ HO1339.out) (R_base ho0) hb) (R_elder' (rU_ HO1342.out) (R_base ho0) hb) (R_elder' (rU_ HO1345.out) (R_base ho0) hb) (R_lower (R_new' (R_new' (R_new' ho0 (R_lt (rU_ HO1339.out))) (R_lt (rU_ HO1342.out))) (R_lt (rU_ HO1345.out))) (below_size sU_)) (blk_below (kU_ BK1332.out) hb) (blk_below (kU_ BK1333.out) hb) (blk_below (kU_ BK1334.out) hb) (below_step sU_ hb) ?_
    clear HO1339 HO1342 HO1345 BK1332 BK1333 BK1334 HB
    intro HO1339 HO1342 HO1345 HO1348 BK1332 BK1333 BK1334 HB
    (try clear hb)
    (try clear hb2)
    (try clear hk)
    (try clear hi)
    (try clear ho0)
    obtain ⟨Ao37, co37, eo37⟩ := R_slice HO1345.out
    (first | subst eo37 | (injection eo37 with f1_ f2_ f3_; have f4_ := f1_.symm; have f5_ := f3_.symm; clear f1_ f2_ f3_; subst f4_; subst f5_))
    obtain ⟨Ao38, co38, eo38⟩ := R_slice HO1348.out
    (first | subst eo38 | (injection eo38 with f1_ f2_ f3_; have f4_ := f1_.symm; have f5_ := f3_.symm; clear f1_ f2_ f3_; subst f4_; subst f5_))
    refine hK.out _ _ ⟨bc0_ BK1332.out, bc1_ BK1332.out, bc0_ BK1333.out, bc1_ BK1333.out⟩ (fun hHeld => ?_)
    clear hK K
    refine norm_ (a' := ?_) ?_ ?_
    rotate_left
    ·show Act.put _ (some 30) _ = _
     simp only [Act.put, s1_, s2_, s3_, i64_w, i32_w]
     rfl
    refine oq_ 16 31 21 131071 HT_.out fun K hK => ?_
    refine goes_ Tryd.func81 (by kernel_rfl) rfl #[.slice Ao37 t1343.length co37, .slice Ao38 t1346.length co38] (by rfl) rfl rfl ga_ ?_
    with_reducible refine (attestorref02_lowest.calls kj2 _ _ t1343 _ _ t1346 t1349 t1352 t1355 _ ?side1 ?side2 ?side3 ?side4 A29.out).mono ?_
    (case side1 => exact cU_ ((R_reads' HO1345.out).2.2))
    (case side2 => exact (R_reads' HO1345.out).2.1)
    (case side3 => exact cU_ ((R_reads' HO1348.out).2.2))
    (case side4 => exact (R_reads' HO1348.out).2.1)
    rintro e w39 ⟨v1350, v1353, rfl, ho0, ho1, hb⟩
    refine ⟨_, rfl, ?_⟩
    refine nx10_ (R_mono (Kd.R_told (Kd.R_told (Kd.R_old (rU_ HO1339.out) hb) (R_base ho0)) (R_base ho1)) (fun _ h_ => h_.1)) (R_mono (Kd.R_told (Kd.R_told (Kd.R_old (rU_ HO1342.out) hb) (R_base ho0)) (R_base ho1)) (fun _ h_ => h_.1)) (R_mono (Kd.R_told (Kd.R_told (Kd.R_old (rU_ HO1345.out) hb) (R_base ho0)) (R_base ho1)) (fun _ h_ => h_.1)) (R_mono (Kd.R_told (Kd.R_told (Kd.R_old (rU_ HO1348.out) hb) (R_base ho0)) (R_base ho1)) (fun _ h_ => h_.1)) (R_lower (R_new' (R_new' (R_new' (R_new' ho0 (R_lt (rU_ HO1339.out))) (R_lt (rU_ HO1342.out))) (R_lt (rU_ HO1345.out))) (R_lt (rU_ HO1348.out))) (below_size sU_)) (R_lower (R_new' (R_new' (R_new' (R_new' ho1 (R_lt (rU_ HO1339.out))) (R_lt (rU_ HO1342.out))) (R_lt (rU_ HO1345.out))) (R_lt (rU_ HO1348.out))) (below_size sU_)) (blk_below (kU_ BK1332.out) hb) (blk_below (kU_ BK1333.out) hb) (blk_below (kU_ BK1334.out) hb) (below_step sU_ hb) ?_
    clear HO1339 HO1342 HO1345 HO1348 BK1332 BK1333 BK1334 HB
    intro HO1339 HO1342 HO1345 HO1348 HO1351 HO1354 BK1332 BK1333 BK1334 HB
    (try clear hb)
    (try clear hb2)
    (try clear hk)
    (try clear hi)
    (try clear ho0)
    (try clear ho1)
    obtain ⟨Ao40, co40, eo40⟩ := R_slice HO1351.out
    (first | subst eo40 | (injection eo40 with f1_ f2_ f3_; have f4_ := f1_.symm; have f5_ := f3_.symm; clear f1_ f2_ f3_; subst f4_; subst f5_))
    obtain ⟨Ao42, co42, eo42⟩ := R_slice HO1354.out
    (first | subst eo42 | (injection eo42 with f1_ f2_ f3_; have f4_ := f1_.symm; have f5_ := f3_.symm; clear f1_ f2_ f3_; subst f4_; subst f5_))
    refine hK.out _ _ ⟨bc0_ BK1332.out, bc1_ BK1332.out, bc0_ BK1333.out, bc1_ BK1333.out⟩ (fun hHeld => ?_)
    clear hK K
    refine norm_ (a' := ?_) ?_ ?_
    rotate_left
    ·show Act.put _ (some 31) _ = _
     simp only [Act.put, s1_, s2_, s3_, i64_w, i32_w]
     rfl
    refine pq_ 17 32 21 262143 HT_.out ?_
    refine pq_ 18 33 21 524287 HT_.out ?_
    refine one_ (i := 19) (N := none) (bv 21 1048575) rfl rfl (one_of HT_.out (by kernel_rfl)) (by decide) (fun K hK => ?_)
    have hs41 : w39.cell? ⟨gb1334, 0, none⟩ = some (.slice none 0 0) := bc0_ BK1334.out
    have hfs41 := blk_frozen BK1334.out 0
    have hns41_0 := NB1332_1334.out
    have hns41_1 := NB1333_1334.out
    have hms41_0 := NB1334_1332.out
    have hms41_1 := NB1334_1333.out
    have hs43 : w39.cell? ⟨gb1334, 1, none⟩ = some (.slice none 0 0) := bc1_ BK1334.out
    have hfs43 := blk_frozen BK1334.out 1
    have hns43_0 := NB1332_1334.out
    have hns43_1 := NB1333_1334.out
    have hms43_0 := NB1334_1332.out
    have hms43_1 := NB1334_1333.out
    refine skip_ (w1 := ?_) (by rfl) rfl ?_ ?_
    rotate_left
    ·go_simp
     rfl
    refine hK.out _ _ ⟨((cell_far (p := ⟨gb1334, _, none⟩) NB1332_1334.out _).trans (((cell_far (p := ⟨gb1334, _, none⟩) NB1332_1334.out _).trans (hHeld.1)))), ((cell_far (p := ⟨gb1334, _, none⟩) NB1332_1334.out _).trans (((cell_far (p := ⟨gb1334, _, none⟩) NB1332_1334.out _).trans (hHeld.2.1)))), ((cell_far (p := ⟨gb1334, _, none⟩) NB1333_1334.out _).trans (((cell_far (p := ⟨gb1334, _, none⟩) NB1333_1334.out _).trans (hHeld.2.2.1)))), ((cell_far (p := ⟨gb1334, _, none⟩) NB1333_1334.out _).trans (((cell_far (p := ⟨gb1334, _, none⟩) NB1333_1334.out _).trans (hHeld.2.2.2))))⟩ (fun hHeld => ?_)
    clear hK K
    refine pq_ 20 5 21 2097151 HT_.out ?_
    refine done_ (done_of HT_.out (by kernel_rfl)) ?_
    try go_wp2
    refine bodyPost_ret (results_ct rfl _ _ gb1334 29 #[.slice Ao40 t1349.length co40, .slice Ao42 t1352.length co42] (0, 0) _ rfl kp_ Tryd.underlying29 rfl (by kernel_rfl)) rfl ?_
    exact ⟨_, _, eW_, by (with_reducible repeat (first | apply Kd.R_alloc | apply Kd.R_drewN | apply R_drew)); exact R_mono (R_far (p := ⟨gb1334, 1, none⟩) (R_far (p := ⟨gb1334, 0, none⟩) (R_types HO1351.out BK1334.out (by decide)) (fun _ hk => hk.2) (.slice Ao40 t1349.length co40)) (fun _ hk => hk.2) (.slice Ao42 t1352.length co42)) (fun _ hk => hk.1.1.1.1.1), by (with_reducible repeat (first | apply Kd.R_alloc | apply Kd.R_drewN | apply R_drew)); exact R_mono (R_far (p := ⟨gb1334, 1, none⟩) (R_far (p := ⟨gb1334, 0, none⟩) (R_types HO1354.out BK1334.out (by decide)) (fun _ hk => hk.2) (.slice Ao40 t1349.length co40)) (fun _ hk => hk.2) (.slice Ao42 t1352.length co42)) (fun _ hk => hk.1.1.1.1.1), sU_⟩

def attestorref02_Mul.j0 : Nat → Bool → List Int → List Int → List Int → List Int → Option (List Int × List Int × Int)
 | 0, _, _, _, _, _ => none
 | k + 1, x13, x1357000, x1357001, x1358000, x1358001 => if x13 = true then (some (([] : List Int), ([] : List Int), 1)) else ((attestorref02_product.f k x1357000 x1358000).bind fun t1361 => ((attestorref02_product.f k x1357001 x1358001).bind fun t1364 => ((attestorref02_lowest.f k t1361 t1364).bind fun bt1367 => (some (bt1367.1, bt1367.2.1, bt1367.2.2)))))
def attestorref02_Mul.f (k : Nat) (l0_0 : List Int) (l0_1 : List Int) (l1_0 : List Int) (l1_1 : List Int) : Option (List Int × List Int × Int) := (attestorref02_Valid.f k l0_0 l0_1).bind fun t1359 => (if t1359 = true then ((attestorref02_Valid.f k l1_0 l1_1).bind fun t1360 => (attestorref02_Mul.j0 k (!t1360) l0_0 l0_1 l1_0 l1_1)) else (attestorref02_Mul.j0 k true l0_0 l0_1 l1_0 l1_1))
def attestorref02_Mul.T3 : Bool × List (List Nat × List Nat) := (true, [([], []), ([0], [0]), ([], []), ([2], [2]), ([1, 3], [1, 3]), ([], []), ([5], [5]), ([], []), ([7], [7]), ([6, 8, 4], [6, 8]), ([4, 9, 9], [4, 9]), ([10], [10]), ([10], [10]), ([11, 10, 0, 1, 2, 3, 4, 5, 6, 7, 8, 9, 10, 11, 12], [11]), ([12, 13, 0, 1, 2, 3, 4, 5, 6, 7, 8, 9, 10, 11, 12, 13], [12])])
def attestorref02_Mul.B3 : List Nat := [0, 1, 0, 4, 15, 0, 32, 0, 128, 511, 1023, 2047, 2047, 8191, 16383]
theorem attestorref02_Mul.tab3 : rtab .any (opsOf Tryd.f43 3) = attestorref02_Mul.T3 := by kernel_rfl
theorem attestorref02_Mul.bits3 : waitsOk attestorref02_Mul.T3.2 attestorref02_Mul.B3 = true := by kernel_rfl
set_option maxHeartbeats 8000000 in
set_option maxRecDepth 100000 in
theorem attestorref02_Mul.calls (k : Nat) (A0_0 : Option Addr) (c0_0 : Nat) (l0_0 : List Int) (A0_1 : Option Addr) (c0_1 : Nat) (l0_1 : List Int) (A1_0 : Option Addr) (c1_0 : Nat) (l1_0 : List Int) (A1_1 : Option Addr) (c1_1 : Nat) (l1_1 : List Int) (r1 : List Int) (r2 : List Int) (r3 : Int) (w : World) (hr0_0 : Kd.C (Kd.int .u32) w A0_0 l0_0.length l0_0) (hc0_0 : l0_0.length ≤ c0_0) (hr0_1 : Kd.C (Kd.int .u32) w A0_1 l0_1.length l0_1) (hc0_1 : l0_1.length ≤ c0_1) (hr1_0 : Kd.C (Kd.int .u32) w A1_0 l1_0.length l1_0) (hc1_0 : l1_0.length ≤ c1_0) (hr1_1 : Kd.C (Kd.int .u32) w A1_1 l1_1.length l1_1) (hc1_1 : l1_1.length ≤ c1_1) (h : attestorref02_Mul.f k l0_0 l0_1 l1_0 l1_1 = some (r1, r2, r3)) :
  Calls Tryd.prog 43 #[.agg #[.slice A0_0 l0_0.length c0_0, .slice A0_1 l0_1.length c0_1], .agg #[.slice A1_0 l1_0.length c1_0, .slice A1_1 l1_1.length c1_1]] w fun e w' => ∃ v0_ v1_ : Value, e = .returned (.tuple #[.agg #[v0_, v1_], .int .i64 r3]) ∧ Kd.R (Kd.int .u32) 44 w' w.heap.size (fun k_ => some k_ ≠ (v1_ : Value).ownBlock) v0_ r1 ∧ Kd.R (Kd.int .u32) 44 w' w.heap.size (fun k_ => some k_ ≠ (v0_ : Value).ownBlock) v1_ r2 ∧ Below w.heap.size w w' := by
 have hu29 := Tryd.underlying29
 have HR0_0 := ak hr0_0
 have HC0_0 := ak hc0_0
 clear hr0_0 hc0_0
 have HR0_1 := ak hr0_1
 have HC0_1 := ak hc0_1
 clear hr0_1 hc0_1
 have HR1_0 := ak hr1_0
 have HC1_0 := ak hc1_0
 clear hr1_0 hc1_0
 have HR1_1 := ak hr1_1
 have HC1_1 := ak hc1_1
 clear hr1_1 hc1_1
 have HB := ak (Below.refl w.heap.size w)
 have H := h
 clear h
 unfold attestorref02_Mul.f at H
 have HC3 := ak H
 clear H
 go_enter Tryd.func43, Tryd.ntmps43
 go_upto_region 1 with (first | ((with_reducible refine gate_dst (N := 2) rfl ?_); refine bx_ 2 29 #[.slice A0_0 l0_0.length c0_0, .slice A0_1 l0_1.length c0_1] ?_; intro gb1356 hg w4 hbox hb; refine nx4_ (below_step (bU_ HB.out) hb) (hbox) ((hs_ hg (below_size (bU_ HB.out)))) ((hs_ hg (below_size (bU_ HB.out)))) ?_; clear HB; intro HB BK1356 GW1356 GE1356; clear hb hbox hg) | ((with_reducible refine gate_dst (N := 3) rfl ?_); refine bx_ 3 29 #[.slice A1_0 l1_0.length c1_0, .slice A1_1 l1_1.length c1_1] ?_; intro gb1357 hg w5 hbox hb; refine nx7_ (blk_below (kU_ BK1356.out) hb) (below_step sU_ hb) (hbox) ((hs_ hg (below_size sU_) : w.heap.size ≤ gb1357)) ((hs_ hg (below_size sU_) : w.heap.size ≤ gb1357)) ((hl_ hg (kU_ BK1356.out))) ((hm_ hg (kU_ BK1356.out))) ?_; clear BK1356 HB; intro BK1356 HB BK1357 GW1357 GE1357 NB1356_1357 NB1357_1356; clear hb hbox hg) | ((with_reducible refine gate_dst (N := 4) rfl ?_); refine bx_ 4 29 #[.slice none 0 0, .slice none 0 0] ?_; intro gb1358 hg w6 hbox hb; refine nx10_ (blk_below (kU_ BK1356.out) hb) (blk_below (kU_ BK1357.out) hb) (below_step sU_ hb) (hbox) ((hs_ hg (below_size sU_) : w.heap.size ≤ gb1358)) ((hs_ hg (below_size sU_) : w.heap.size ≤ gb1358)) ((hl_ hg (kU_ BK1356.out))) ((hm_ hg (kU_ BK1356.out))) ((hl_ hg (kU_ BK1357.out))) ((hm_ hg (kU_ BK1357.out))) ?_; clear BK1356 BK1357 HB; intro BK1356 BK1357 HB BK1358 GW1358 GE1358 NB1356_1358 NB1358_1356 NB1357_1358 NB1358_1357; clear hb hbox hg))
 (try simp only [Act.put, s1_, s2_, s3_])
 go_cut [13] (fun v13 wc => ∃ (kq : Nat) (x13_2 : Bool), v13 = .bool x13_2 ∧ Aside0 (attestorref02_Mul.j0 kq x13_2 l0_0 l0_1 l1_0 l1_1 = some (r1, r2, r3)) ∧ Aside0 (kq ≤ k) ∧ Aside0 (wc.heap[gb1356]? = some (.cells #[(.slice A0_0 l0_0.length c0_0), (.slice A0_1 l0_1.length c0_1)] 29 (0, 0))) ∧ Aside0 (wc.heap[gb1357]? = some (.cells #[(.slice A1_0 l1_0.length c1_0), (.slice A1_1 l1_1.length c1_1)] 29 (0, 0))) ∧ Aside0 (wc.heap[gb1358]? = some (.cells #[(.slice none 0 0), (.slice none 0 0)] 29 (0, 0))) ∧ Aside0 (Below w.heap.size w wc))
 case first =>
  have H := HC3.out
  clear HC3
  revert H
  refine bd_ fun t1359 A7 H => ?_
  by_cases c8 : t1359 = true
  ·subst c8
   rw [if_pos rfl] at H
   revert H
   refine bd_ fun t1360 A9 H => ?_
   have H' := ak H
   clear H
   have hnb10 := NB1356_1357.out
   have hnc10 := NB1357_1356.out
   have hnb11 := NB1356_1358.out
   have hnc11 := NB1358_1356.out
   have hcz12_0 := bc0_ BK1356.out
   have hcz12_1 := bc1_ BK1356.out
   have hfz12_0 := blk_frozen BK1356.out 0
   have hfz12_1 := blk_frozen BK1356.out 1
   go_wp2_with (first | ((with_reducible refine gate_callee (f := 38) rfl ?_); refine gl_ (some 7) Tryd.func38 #[.agg #[.slice A0_0 l0_0.length c0_0, .slice A0_1 l0_1.length c0_1]] ?_; (with_reducible refine (attestorref02_Valid.calls k _ _ l0_0 _ _ l0_1 true _ ?side1 ?side2 ?side3 ?side4 A7.out).mono ?_); (case side1 => exact cU_ (C_below HR0_0.out HB.out)); (case side2 => exact HC0_0.out); (case side3 => exact cU_ (C_below HR0_1.out HB.out)); (case side4 => exact HC0_1.out); rintro e w13 ⟨rfl, hb⟩; refine ⟨_, rfl, ?_⟩; refine nx4_ (blk_below (kU_ BK1356.out) hb) (blk_below (kU_ BK1357.out) hb) (blk_below (kU_ BK1358.out) hb) (below_step sU_ hb) ?_; clear BK1356 BK1357 BK1358 HB; intro BK1356 BK1357 BK1358 HB; clear hb; have hnb14 := NB1357_1358.out; have hnc14 := NB1358_1357.out; have hcz15_0 := bc0_ BK1357.out; have hcz15_1 := bc1_ BK1357.out; have hfz15_0 := blk_frozen BK1357.out 0; have hfz15_1 := blk_frozen BK1357.out 1) | (go_at_call 38; (with_reducible refine (attestorref02_Valid.calls k _ _ l1_0 _ _ l1_1 t1360 _ ?side1 ?side2 ?side3 ?side4 A9.out).mono ?_); (case side1 => exact cU_ (C_below HR1_0.out HB.out)); (case side2 => exact HC1_0.out); (case side3 => exact cU_ (C_below HR1_1.out HB.out)); (case side4 => exact HC1_1.out); rintro e w16 ⟨rfl, hb⟩; refine nx4_ (blk_below (kU_ BK1356.out) hb) (blk_below (kU_ BK1357.out) hb) (blk_below (kU_ BK1358.out) hb) (below_step sU_ hb) ?_; clear BK1356 BK1357 BK1358 HB; intro BK1356 BK1357 BK1358 HB; clear hb))
   go_meet
   case rel => exact ⟨_, (!t1360), gb_, H', ⟨by first | omega | exact Nat.le_refl _⟩, ⟨by (with_reducible repeat (first | refine blk_drewN ?_ _ | refine blk_drew ?_ | refine blk_alloc ?_ _)); exact BK1356.out⟩, ⟨by (with_reducible repeat (first | refine blk_drewN ?_ _ | refine blk_drew ?_ | refine blk_alloc ?_ _)); exact BK1357.out⟩, ⟨by (with_reducible repeat (first | refine blk_drewN ?_ _ | refine blk_drew ?_ | refine blk_alloc ?_ _)); exact BK1358.out⟩, ⟨sU_⟩⟩
  ·replace c8 := Bool.eq_false_iff.mpr c8
   subst c8
   rw [if_neg (show ¬ (false = true) by decide)] at H
   have H' := ak H
   clear H
   have hnb17 := NB1356_1357.out
   have hnc17 := NB1357_1356.out
   have hnb18 := NB1356_1358.out
   have hnc18 := NB1358_1356.out
   have hcz19_0 := bc0_ BK1356.out
   have hcz19_1 := bc1_ BK1356.out
   have hfz19_0 := blk_frozen BK1356.out 0
   have hfz19_1 := blk_frozen BK1356.out 1
   go_wp2_with (first | ((with_reducible refine gate_callee (f := 38) rfl ?_); refine gl_ (some 7) Tryd.func38 #[.agg #[.slice A0_0 l0_0.length c0_0, .slice A0_1 l0_1.length c0_1]] ?_; (with_reducible refine (attestorref02_Valid.calls k _ _ l0_0 _ _ l0_1 false _ ?side1 ?side2 ?side3 ?side4 A7.out).mono ?_); (case side1 => exact cU_ (C_below HR0_0.out HB.out)); (case side2 => exact HC0_0.out); (case side3 => exact cU_ (C_below HR0_1.out HB.out)); (case side4 => exact HC0_1.out); rintro e w20 ⟨rfl, hb⟩; refine ⟨_, rfl, ?_⟩; refine nx4_ (blk_below (kU_ BK1356.out) hb) (blk_below (kU_ BK1357.out) hb) (blk_below (kU_ BK1358.out) hb) (below_step sU_ hb) ?_; clear BK1356 BK1357 BK1358 HB; intro BK1356 BK1357 BK1358 HB; clear hb))
   go_meet
   case rel => exact ⟨_, (true), gb_, H', ⟨by first | omega | exact Nat.le_refl _⟩, ⟨by (with_reducible repeat (first | refine blk_drewN ?_ _ | refine blk_drew ?_ | refine blk_alloc ?_ _)); exact BK1356.out⟩, ⟨by (with_reducible repeat (first | refine blk_drewN ?_ _ | refine blk_drew ?_ | refine blk_alloc ?_ _)); exact BK1357.out⟩, ⟨by (with_reducible repeat (first | refine blk_drewN ?_ _ | refine blk_drew ?_ | refine blk_alloc ?_ _)); exact BK1358.out⟩, ⟨sU_⟩⟩
 case rest =>
  clear HC3
  (try clear c1); (try clear p2); (try clear c3); (try clear c4); (try clear c8); (try clear c10); (try clear c11); (try clear c14); (try clear c17); (try clear c18); (try clear hcz12_0); (try clear hcz12_1); (try clear hcz15_0); (try clear hcz15_1); (try clear hcz19_0); (try clear hcz19_1); (try clear hfz12_0); (try clear hfz12_1); (try clear hfz15_0); (try clear hfz15_1); (try clear hfz19_0); (try clear hfz19_1)
  obtain ⟨kq, x13_2, rfl, HA, HJ2, BK1356, BK1357, BK1358, HB⟩ := hcut
  cases kq with
  | zero => exact absurd HA.out (by simp [attestorref02_Mul.j0])
  | succ kj2 =>
   have H := HA.out
   clear HA
   simp only [attestorref02_Mul.j0] at H
   by_cases c21 : x13_2 = true
   ·subst c21
    rw [if_pos rfl] at H
    simp only [Option.some.injEq, Prod.mk.injEq] at H
    obtain ⟨rfl, rfl, rfl⟩ := H
    have hnb22 := NB1358_1356.out
    have hnc22 := NB1356_1358.out
    have hnb23 := NB1358_1357.out
    have hnc23 := NB1357_1358.out
    have hcz24_0 := bc0_ BK1358.out
    have hcz24_1 := bc1_ BK1358.out
    have hfz24_0 := blk_frozen BK1358.out 0
    have hfz24_1 := blk_frozen BK1358.out 1
    go_wp2
    refine bodyPost_ret (results_ct rfl _ _ gb1358 29 #[.slice none 0 0, .slice none 0 0] (0, 0) _ rfl kp_ Tryd.underlying29 rfl (by kernel_rfl)) rfl ?_
    exact ⟨_, _, eW_, by first | exact Kd.R_nil _ _ _ _ _ | exact Kd.N_nil _ _ _ _ _ | exact Kd.V_nil _ _ _ _ _ | exact Kd.Q_nil _ _ _ _ _ | exact Kd.S_nil _ _ _ _ _, by first | exact Kd.R_nil _ _ _ _ _ | exact Kd.N_nil _ _ _ _ _ | exact Kd.V_nil _ _ _ _ _ | exact Kd.Q_nil _ _ _ _ _ | exact Kd.S_nil _ _ _ _ _, sU_⟩
   ·replace c21 := Bool.eq_false_iff.mpr c21
    subst c21
    rw [if_neg (show ¬ (false = true) by decide)] at H
    revert H
    refine bd_ fun t1361 A25 H => ?_
    revert H
    refine bd_ fun t1364 A26 H => ?_
    revert H
    refine bd3_ fun t1367 t1370 t1373 A27 H => ?_
    try dsimp only at H
    simp only [Option.some.injEq, Prod.mk.injEq] at H
    obtain ⟨rfl, rfl, rfl⟩ := H
    try go_wp2
    refine nx4_ (blk_drew BK1356.out) (blk_drew BK1357.out) (blk_drew BK1358.out) (below_drew1 HB.out) ?_
    clear BK1356 BK1357 BK1358 HB
    intro BK1356 BK1357 BK1358 HB
    refine start_ (n := 15) (S := fun w' => w'.cell? ⟨gb1356, 0, none⟩ = some (.slice A0_0 l0_0.length c0_0) ∧ w'.cell? ⟨gb1356, 1, none⟩ = some (.slice A0_1 l0_1.length c0_1) ∧ w'.cell? ⟨gb1357, 0, none⟩ = some (.slice A1_0 l1_0.length c1_0) ∧ w'.cell? ⟨gb1357, 1, none⟩ = some (.slice A1_1 l1_1.length c1_1)) (ds := []) (bv 15 0) (by kernel_rfl) rfl rfl ⟨bc0_ BK1356.out, bc1_ BK1356.out, bc0_ BK1357.out, bc1_ BK1357.out⟩ (fun hHeld => ?_); refine with_tabW attestorref02_Mul.tab3 attestorref02_Mul.bits3 (fun HT_ HW_ => ?_)
    generalize wc.drew = w28 at BK1356 BK1357 BK1358 HB hHeld ⊢
    refine pq_ 0 15 15 1 HT_.out ?_
    refine pq_ 2 17 15 5 HT_.out ?_
    refine pq_ 5 20 15 37 HT_.out ?_
    refine pq_ 7 22 15 165 HT_.out ?_
    refine tq_ 1 16 15 167 HT_.out HW_.out hHeld ?_
    refine tq_ 3 18 15 175 HT_.out HW_.out hHeld ?_
    refine tq_ 6 21 15 239 HT_.out HW_.out hHeld ?_
    refine tq_ 8 23 15 495 HT_.out HW_.out hHeld ?_
    refine oq_ 4 19 15 511 HT_.out fun K hK => ?_
    refine goes_ Tryd.func63 (by kernel_rfl) rfl #[.slice A0_0 l0_0.length c0_0, .slice A1_0 l1_0.length c1_0] (by rfl) rfl rfl ga_ ?_
    with_reducible refine (attestorref02_product.calls kj2 _ _ l0_0 _ _ l1_0 t1361 _ ?side1 ?side2 ?side3 ?side4 A25.out).mono ?_
    (case side1 => exact cU_ (C_below HR0_0.out HB.out))
    (case side2 => exact HC0_0.out)
    (case side3 => exact cU_ (C_below HR1_0.out HB.out))
    (case side4 => exact HC1_0.out)
    rintro e w29 ⟨v1362, rfl, ho0, hb⟩
    refine ⟨_, rfl, ?_⟩
    refine nx5_ (R_lower ho0 (below_size sU_)) (blk_below (kU_ BK1356.out) hb) (blk_below (kU_ BK1357.out) hb) (blk_below (kU_ BK1358.out) hb) (below_step sU_ hb) ?_
    clear BK1356 BK1357 BK1358 HB
    intro HO1363 BK1356 BK1357 BK1358 HB
    (try clear hb)
    (try clear hb2)
    (try clear hk)
    (try clear hi)
    (try clear ho0)
    refine hK.out _ _ ⟨bc0_ BK1356.out, bc1_ BK1356.out, bc0_ BK1357.out, bc1_ BK1357.out⟩ (fun hHeld => ?_)
    clear hK K
    refine norm_ (a' := ?_) ?_ ?_
    rotate_left
    ·show Act.put _ (some 19) _ = _
     simp only [Act.put, s1_, s2_, s3_, i64_w, i32_w]
     rfl
    refine oq_ 9 24 15 1023 HT_.out fun K hK => ?_
    refine goes_ Tryd.func63 (by kernel_rfl) rfl #[.slice A0_1 l0_1.length c0_1, .slice A1_1 l1_1.length c1_1] (by rfl) rfl rfl ga_ ?_
    with_reducible refine (attestorref02_product.calls kj2 _ _ l0_1 _ _ l1_1 t1364 _ ?side1 ?side2 ?side3 ?side4 A26.out).mono ?_
    (case side1 => exact cU_ (C_below HR0_1.out HB.out))
    (case side2 => exact HC0_1.out)
    (case side3 => exact cU_ (C_below HR1_1.out HB.out))
    (case side4 => exact HC1_1.out)
    rintro e w30 ⟨v1365, rfl, ho0, hb⟩
    refine ⟨_, rfl, ?_⟩
    refine nx6_ (R_elder' (rU_ HO1363.out) (R_base ho0) hb) (R_lower (R_new' ho0 (R_lt (rU_ HO1363.out))) (below_size sU_)) (blk_below (kU_ BK1356.out) hb) (blk_below (kU_ BK1357.out) hb) (blk_below (kU_ BK1358.out) hb) (below_step sU_ hb) ?_
    clear HO1363 BK1356 BK1357 BK1358 HB
    intro HO1363 HO1366 BK1356 BK1357 BK1358 HB
    (try clear hb)
    (try clear hb2)
    (try clear hk)
    (try clear hi)
    (try clear ho0)
    obtain ⟨Ao31, co31, eo31⟩ := R_slice HO1363.out
    (first | subst eo31 | (injection eo31 with f1_ f2_ f3_; have f4_ := f1_.symm; have f5_ := f3_.symm; clear f1_ f2_ f3_; subst f4_; subst f5_))
    obtain ⟨Ao32, co32, eo32⟩ := R_slice HO1366.out
    (first | subst eo32 | (injection eo32 with f1_ f2_ f3_; have f4_ := f1_.symm; have f5_ := f3_.symm; clear f1_ f2_ f3_; subst f4_; subst f5_))
    refine hK.out _ _ ⟨bc0_ BK1356.out, bc1_ BK1356.out, bc0_ BK1357.out, bc1_ BK1357.out⟩ (fun hHeld => ?_)
    clear hK K
    refine norm_ (a' := ?_) ?_ ?_
    rotate_left
    ·show Act.put _ (some 24) _ = _
     simp only [Act.put, s1_, s2_, s3_, i64_w, i32_w]
     rfl
    refine oq_ 10 25 15 2047 HT_.out fun K hK => ?_
    refine goes_ Tryd.func81 (by kernel_rfl) rfl #[.slice Ao31 t1361.length co31, .slice Ao32 t1364.length co32] (by rfl) rfl rfl ga_ ?_
    with_reducible refine (attestorref02_lowest.calls kj2 _ _ t1361 _ _ t1364 t1367 t1370 t1373 _ ?side1 ?side2 ?side3 ?side4 A27.out).mono ?_
    (case side1 => exact cU_ ((R_reads' HO1363.out).2.2))
    (case side2 => exact (R_reads' HO1363.out).2.1)
    (case side3 => exact cU_ ((R_reads' HO1366.out).2.2))
    (case side4 => exact (R_reads' HO1366.out).2.1)
    rintro e w33 ⟨v1368, v1371, rfl, ho0, ho1, hb⟩
    refine ⟨_, rfl, ?_⟩
    refine nx8_ (R_mono (Kd.R_told (Kd.R_told (Kd.R_old (rU_ HO1363.out) hb) (R_base ho0)) (R_base ho1)) (fun _ h_ => h_.1)) (R_mono (Kd.R_told (Kd.R_told (Kd.R_old (rU_ HO1366.out) hb) (R_base ho0)) (R_base ho1)) (fun _ h_ => h_.1)) (R_lower (R_new' (R_new' ho0 (R_lt (rU_ HO1363.out))) (R_lt (rU_ HO1366.out))) (below_size sU_)) (R_lower (R_new' (R_new' ho1 (R_lt (rU_ HO1363.out))) (R_lt (rU_ HO1366.out))) (below_size sU_)) (blk_below (kU_ BK1356.out) hb) (blk_below (kU_ BK1357.out) hb) (blk_below (kU_ BK1358.out) hb) (below_step sU_ hb) ?_
    clear HO1363 HO1366 BK1356 BK1357 BK1358 HB
    intro HO1363 HO1366 HO1369 HO1372 BK1356 BK1357 BK1358 HB
    (try clear hb)
    (try clear hb2)
    (try clear hk)
    (try clear hi)
    (try clear ho0)
    (try clear ho1)
    obtain ⟨Ao34, co34, eo34⟩ := R_slice HO1369.out
    (first | subst eo34 | (injection eo34 with f1_ f2_ f3_; have f4_ := f1_.symm; have f5_ := f3_.symm; clear f1_ f2_ f3_; subst f4_; subst f5_))
    obtain ⟨Ao36, co36, eo36⟩ := R_slice HO1372.out
    (first | subst eo36 | (injection eo36 with f1_ f2_ f3_; have f4_ := f1_.symm; have f5_ := f3_.symm; clear f1_ f2_ f3_; subst f4_; subst f5_))
    refine hK.out _ _ ⟨bc0_ BK1356.out, bc1_ BK1356.out, bc0_ BK1357.out, bc1_ BK1357.out⟩ (fun hHeld => ?_)
    clear hK K
    refine norm_ (a' := ?_) ?_ ?_
    rotate_left
    ·show Act.put _ (some 25) _ = _
     simp only [Act.put, s1_, s2_, s3_, i64_w, i32_w]
     rfl
    refine pq_ 11 26 15 4095 HT_.out ?_
    refine pq_ 12 27 15 8191 HT_.out ?_
    refine one_ (i := 13) (N := none) (bv 15 16383) rfl rfl (one_of HT_.out (by kernel_rfl)) (by decide) (fun K hK => ?_)
    have hs35 : w33.cell? ⟨gb1358, 0, none⟩ = some (.slice none 0 0) := bc0_ BK1358.out
    have hfs35 := blk_frozen BK1358.out 0
    have hns35_0 := NB1356_1358.out
    have hns35_1 := NB1357_1358.out
    have hms35_0 := NB1358_1356.out
    have hms35_1 := NB1358_1357.out
    have hs37 : w33.cell? ⟨gb1358, 1, none⟩ = some (.slice none 0 0) := bc1_ BK1358.out
    have hfs37 := blk_frozen BK1358.out 1
    have hns37_0 := NB1356_1358.out
    have hns37_1 := NB1357_1358.out
    have hms37_0 := NB1358_1356.out
    have hms37_1 := NB1358_1357.out
    refine skip_ (w1 := ?_) (by rfl) rfl ?_ ?_
    rotate_left
    ·go_simp
     rfl
    refine hK.out _ _ ⟨((cell_far (p := ⟨gb1358, _, none⟩) NB1356_1358.out _).trans (((cell_far (p := ⟨gb1358, _, none⟩) NB1356_1358.out _).trans (hHeld.1)))), ((cell_far (p := ⟨gb1358, _, none⟩) NB1356_1358.out _).trans (((cell_far (p := ⟨gb1358, _, none⟩) NB1356_1358.out _).trans (hHeld.2.1)))), ((cell_far (p := ⟨gb1358, _, none⟩) NB1357_1358.out _).trans (((cell_far (p := ⟨gb1358, _, none⟩) NB1357_1358.out _).trans (hHeld.2.2.1)))), ((cell_far (p := ⟨gb1358, _, none⟩) NB1357_1358.out _).trans (((cell_far (p := ⟨gb1358, _, none⟩) NB1357_1358.out _).trans (hHeld.2.2.2))))⟩ (fun hHeld => ?_)
    clear hK K
    refine pq_ 14 5 15 32767 HT_.out ?_
    refine done_ (done_of HT_.out (by kernel_rfl)) ?_
    try go_wp2
    refine bodyPost_ret (results_ct rfl _ _ gb1358 29 #[.slice Ao34 t1367.length co34, .slice Ao36 t1370.length co36] (0, 0) _ rfl kp_ Tryd.underlying29 rfl (by kernel_rfl)) rfl ?_
    exact ⟨_, _, eW_, by (with_reducible repeat (first | apply Kd.R_alloc | apply Kd.R_drewN | apply R_drew)); exact R_mono (R_far (p := ⟨gb1358, 1, none⟩) (R_far (p := ⟨gb1358, 0, none⟩) (R_types HO1369.out BK1358.out (by decide)) (fun _ hk => hk.2) (.slice Ao34 t1367.length co34)) (fun _ hk => hk.2) (.slice Ao36 t1370.length co36)) (fun _ hk => hk.1.1.1), by (with_reducible repeat (first | apply Kd.R_alloc | apply Kd.R_drewN | apply R_drew)); exact R_mono (R_far (p := ⟨gb1358, 1, none⟩) (R_far (p := ⟨gb1358, 0, none⟩) (R_types HO1372.out BK1358.out (by decide)) (fun _ hk => hk.2) (.slice Ao34 t1367.length co34)) (fun _ hk => hk.2) (.slice Ao36 t1370.length co36)) (fun _ hk => hk.1.1.1), sU_⟩

mutual
def attestorref02_Power.j0 : Nat → Int → Bool → List Int → List Int → Option (List Int × List Int × Int)
 | 0, _, _, _, _ => none
 | k + 1, x1, x17, x1375000, x1375001 => if x17 = true then (some (([] : List Int), ([] : List Int), 2)) else (attestorref02_Power.l0 k x1 0 x1375000 x1375001 (([1] : List Int)) (([1] : List Int)))
def attestorref02_Power.l0 : Nat → Int → Int → List Int → List Int → List Int → List Int → Option (List Int × List Int × Int)
 | 0, _, _, _, _, _, _ => none
 | k + 1, x1, x7, x1375000, x1375001, x1384000, x1384001 => if x7 < x1 then ((attestorref02_product.f k x1384000 x1375000).bind fun t1384 => ((attestorref02_product.f k x1384001 x1375001).bind fun t1387 => (if (t1384.length : Int) > 64 then (some (([] : List Int), ([] : List Int), 3)) else (if (t1387.length : Int) > 64 then (some (([] : List Int), ([] : List Int), 3)) else (attestorref02_Power.l0 k x1 (wrap64 (x7 + 1)) x1375000 x1375001 t1384 t1387))))) else (some (x1384000, x1384001, 0))
end
def attestorref02_Power.f (k : Nat) (l0_0 : List Int) (l0_1 : List Int) (a1 : Int) : Option (List Int × List Int × Int) := (attestorref02_Valid.f k l0_0 l0_1).bind fun t1376 => (if t1376 = true then (if a1 < 0 then (attestorref02_Power.j0 k a1 true l0_0 l0_1) else (attestorref02_Power.j0 k a1 (decide (a1 > 1000)) l0_0 l0_1)) else (some (([] : List Int), ([] : List Int), 1)))
def attestorref02_Power.T9 : Bool × List (List Nat × List Nat) := (true, [([], []), ([0], [0]), ([], []), ([2], [2]), ([1, 3], [1, 3]), ([], []), ([5], [5]), ([], []), ([7], [7]), ([6, 8, 4], [6, 8]), ([4, 9], [4, 9]), ([10, 9, 0, 1, 2, 3, 4, 5, 6, 7, 8, 9, 10], [10])])
def attestorref02_Power.B9 : List Nat := [0, 1, 0, 4, 15, 0, 32, 0, 128, 511, 1023, 2047]
theorem attestorref02_Power.tab9 : rtab .any (opsOf Tryd.f45 9) = attestorref02_Power.T9 := by kernel_rfl
theorem attestorref02_Power.bits9 : waitsOk attestorref02_Power.T9.2 attestorref02_Power.B9 = true := by kernel_rfl
set_option maxHeartbeats 8000000 in
set_option maxRecDepth 100000 in
theorem attestorref02_Power.calls (k : Nat) (A0_0 : Option Addr) (c0_0 : Nat) (l0_0 : List Int) (A0_1 : Option Addr) (c0_1 : Nat) (l0_1 : List Int) (a1 : Int) (r1 : List Int) (r2 : List Int) (r3 : Int) (w : World) (hr0_0 : Kd.C (Kd.int .u32) w A0_0 l0_0.length l0_0) (hc0_0 : l0_0.length ≤ c0_0) (hr0_1 : Kd.C (Kd.int .u32) w A0_1 l0_1.length l0_1) (hc0_1 : l0_1.length ≤ c0_1) (h : attestorref02_Power.f k l0_0 l0_1 a1 = some (r1, r2, r3)) :
  Calls Tryd.prog 45 #[.agg #[.slice A0_0 l0_0.length c0_0, .slice A0_1 l0_1.length c0_1], .int .i64 a1] w fun e w' => ∃ v0_ v1_ : Value, e = .returned (.tuple #[.agg #[v0_, v1_], .int .i64 r3]) ∧ Kd.R (Kd.int .u32) 44 w' w.heap.size (fun k_ => some k_ ≠ (v1_ : Value).ownBlock) v0_ r1 ∧ Kd.R (Kd.int .u32) 44 w' w.heap.size (fun k_ => some k_ ≠ (v0_ : Value).ownBlock) v1_ r2 ∧ Below w.heap.size w w' := by
 have hu29 := Tryd.underlying29
 have HR0_0 := ak hr0_0
 have HC0_0 := ak hc0_0
 clear hr0_0 hc0_0
 have HR0_1 := ak hr0_1
 have HC0_1 := ak hc0_1
 clear hr0_1 hc0_1
 have HB := ak (Below.refl w.heap.size w)
 have H := h
 clear h
 unfold attestorref02_Power.f at H
 revert H
 refine bd_ fun t1376 A3 H => ?_
 by_cases c4 : t1376 = true
 ·subst c4
  rw [if_pos rfl] at H
  have HC5 := ak H
  clear H
  go_enter Tryd.func45, Tryd.ntmps45
  go_upto_region 3 with (first | ((with_reducible refine gate_dst (N := 2) rfl ?_); (try (refine gate_guard (by rfl) ?_; dsimp only)); refine bx_ 2 29 #[.slice A0_0 l0_0.length c0_0, .slice A0_1 l0_1.length c0_1] ?_; intro gb1374 hg w6 hbox hb; refine nx4_ (below_step (bU_ HB.out) hb) (hbox) ((hs_ hg (below_size (bU_ HB.out)))) ((hs_ hg (below_size (bU_ HB.out)))) ?_; clear HB; intro HB BK1374 GW1374 GE1374; clear hb hbox hg) | ((with_reducible refine gate_dst (N := 4) rfl ?_); (try (refine gate_guard (by rfl) ?_; dsimp only)); refine bx_ 4 29 #[.slice none 0 0, .slice none 0 0] ?_; intro gb1375 hg w7 hbox hb; refine nx7_ (blk_below (kU_ BK1374.out) hb) (below_step sU_ hb) (hbox) ((hs_ hg (below_size sU_) : w.heap.size ≤ gb1375)) ((hs_ hg (below_size sU_) : w.heap.size ≤ gb1375)) ((hl_ hg (kU_ BK1374.out))) ((hm_ hg (kU_ BK1374.out))) ?_; clear BK1374 HB; intro BK1374 HB BK1375 GW1375 GE1375 NB1374_1375 NB1375_1374; clear hb hbox hg; have hnb8 := NB1374_1375.out; have hnc8 := NB1375_1374.out; have hcz9_0 := bc0_ BK1374.out; have hcz9_1 := bc1_ BK1374.out; have hfz9_0 := blk_frozen BK1374.out 0; have hfz9_1 := blk_frozen BK1374.out 1) | ((with_reducible refine gate_callee (f := 38) rfl ?_); refine gl_ (some 9) Tryd.func38 #[.agg #[.slice A0_0 l0_0.length c0_0, .slice A0_1 l0_1.length c0_1]] ?_; (with_reducible refine (attestorref02_Valid.calls k _ _ l0_0 _ _ l0_1 true _ ?side1 ?side2 ?side3 ?side4 A3.out).mono ?_); (case side1 => exact cU_ (C_below HR0_0.out HB.out)); (case side2 => exact HC0_0.out); (case side3 => exact cU_ (C_below HR0_1.out HB.out)); (case side4 => exact HC0_1.out); rintro e w10 ⟨rfl, hb⟩; refine ⟨_, rfl, ?_⟩; refine nx3_ (blk_below (kU_ BK1374.out) hb) (blk_below (kU_ BK1375.out) hb) (below_step sU_ hb) ?_; clear BK1374 BK1375 HB; intro BK1374 BK1375 HB; clear hb))
  (try simp only [Act.put, s1_, s2_, s3_])
  go_cut [17] (fun v17 wc => ∃ (kq : Nat) (x17_4 : Bool), v17 = .bool x17_4 ∧ Aside0 (attestorref02_Power.j0 kq a1 x17_4 l0_0 l0_1 = some (r1, r2, r3)) ∧ Aside0 (kq ≤ k) ∧ Aside0 (wc.heap[gb1374]? = some (.cells #[(.slice A0_0 l0_0.length c0_0), (.slice A0_1 l0_1.length c0_1)] 29 (0, 0))) ∧ Aside0 (wc.heap[gb1375]? = some (.cells #[(.slice none 0 0), (.slice none 0 0)] 29 (0, 0))) ∧ Aside0 (Below w.heap.size w wc))
  case first =>
   have H := HC5.out
   clear HC5
   by_cases c11 : a1 < 0
   ·rw [if_pos c11] at H
    have c11b0 := decide_eq_true c11
    clear c11
    (first | rw [c11b0] | (simp only [i64_w, i32_w]; rw [c11b0]) | rw [c11b1] | skip)
    have H' := ak H
    clear H
    go_wp2
    go_meet
    case rel => exact ⟨_, (true), gb_, H', ⟨by first | omega | exact Nat.le_refl _⟩, ⟨by (with_reducible repeat (first | refine blk_drewN ?_ _ | refine blk_drew ?_ | refine blk_alloc ?_ _)); exact BK1374.out⟩, ⟨by (with_reducible repeat (first | refine blk_drewN ?_ _ | refine blk_drew ?_ | refine blk_alloc ?_ _)); exact BK1375.out⟩, ⟨sU_⟩⟩
   ·rw [if_neg c11] at H
    have c11b0 := decide_eq_false c11
    clear c11
    (first | rw [c11b0] | (simp only [i64_w, i32_w]; rw [c11b0]) | rw [c11b1] | skip)
    have H' := ak H
    clear H
    go_wp2
    go_meet
    case rel => exact ⟨_, (decide (a1 > 1000)), gb_, H', ⟨by first | omega | exact Nat.le_refl _⟩, ⟨by (with_reducible repeat (first | refine blk_drewN ?_ _ | refine blk_drew ?_ | refine blk_alloc ?_ _)); exact BK1374.out⟩, ⟨by (with_reducible repeat (first | refine blk_drewN ?_ _ | refine blk_drew ?_ | refine blk_alloc ?_ _)); exact BK1375.out⟩, ⟨sU_⟩⟩
  case rest =>
   clear HC5
   (try clear c1); (try clear p2); (try clear c3); (try clear c4); (try clear c8); (try clear c11); (try clear c11b0); (try clear c11b1); (try clear hcz9_0); (try clear hcz9_1); (try clear hfz9_0); (try clear hfz9_1)
   obtain ⟨kq, x17_4, rfl, HA, HJ4, BK1374, BK1375, HB⟩ := hcut
   cases kq with
   | zero => exact absurd HA.out (by simp [attestorref02_Power.j0])
   | succ kj4 =>
    have H := HA.out
    clear HA
    simp only [attestorref02_Power.j0] at H
    by_cases c12 : x17_4 = true
    ·subst c12
     rw [if_pos rfl] at H
     simp only [Option.some.injEq, Prod.mk.injEq] at H
     obtain ⟨rfl, rfl, rfl⟩ := H
     have hnb13 := NB1375_1374.out
     have hnc13 := NB1374_1375.out
     have hcz14_0 := bc0_ BK1375.out
     have hcz14_1 := bc1_ BK1375.out
     have hfz14_0 := blk_frozen BK1375.out 0
     have hfz14_1 := blk_frozen BK1375.out 1
     go_wp2
     refine bodyPost_ret (results_ct rfl _ _ gb1375 29 #[.slice none 0 0, .slice none 0 0] (0, 0) _ rfl kp_ Tryd.underlying29 rfl (by kernel_rfl)) rfl ?_
     exact ⟨_, _, eW_, by first | exact Kd.R_nil _ _ _ _ _ | exact Kd.N_nil _ _ _ _ _ | exact Kd.V_nil _ _ _ _ _ | exact Kd.Q_nil _ _ _ _ _ | exact Kd.S_nil _ _ _ _ _, by first | exact Kd.R_nil _ _ _ _ _ | exact Kd.N_nil _ _ _ _ _ | exact Kd.V_nil _ _ _ _ _ | exact Kd.Q_nil _ _ _ _ _ | exact Kd.S_nil _ _ _ _ _, sU_⟩
    ·replace c12 := Bool.eq_false_iff.mpr c12
     subst c12
     rw [if_neg (show ¬ (false = true) by decide)] at H
     obtain ⟨y1377, hy1377⟩ : ∃ y_ : List Int, y_ = (([1] : List Int)) := ⟨_, rfl⟩
     replace H : (attestorref02_Power.l0 kj4 a1 0 l0_0 l0_1 y1377 (([1] : List Int))) = some (r1, r2, r3) := by first | (rw [hy1377]; with_reducible exact H) | (have H2_ := (Option.bind_some _ _).symm.trans H; rw [hy1377]; with_reducible exact H2_) | (have H2_ := (Option.bind_some _ _).symm.trans H; with_reducible exact H2_) | with_reducible exact H | (rw [hy1377]; exact H) | exact H
     have Ny1377 := ak hy1377
     clear hy1377
     obtain ⟨y1380, hy1380⟩ : ∃ y_ : List Int, y_ = (([1] : List Int)) := ⟨_, rfl⟩
     replace H : (attestorref02_Power.l0 kj4 a1 0 l0_0 l0_1 y1377 y1380) = some (r1, r2, r3) := by first | (rw [hy1380]; with_reducible exact H) | (have H2_ := (Option.bind_some _ _).symm.trans H; rw [hy1380]; with_reducible exact H2_) | (have H2_ := (Option.bind_some _ _).symm.trans H; with_reducible exact H2_) | with_reducible exact H | (rw [hy1380]; exact H) | exact H
     have Ny1380 := ak hy1380
     clear hy1380
     have H' := ak H
     clear H
     go_wp2_with (first | ((with_reducible refine gate_dst (N := 19) rfl ?_); (try (refine gate_guard (by rfl) ?_; dsimp only)); refine R_lit (Kd.int .u32) _ 44 ?hg (N := 19) ?hd (xs := ([1] : List Int)) (inner := [.int .u32 1]) (ok := fun _ => True) (okp := fun _ => True) ?hr ?hp (fun _ hk => hk) trivial (Below.refl _ _) (Nat.le_refl _) (by simp) ?_; (case hd => rfl); (case hg => rfl); (case hr => first | (go_simp; done) | (go_simp; rfl)); (case hp => exact (Reps.one (show Kd.M (Kd.int .u32) _ _ _ 1 [.int .u32 1] from rfl) (Reps.none _ _))); intro v1378 w15 ho16 hb hg_ hnew_; clear hg_ hnew_; (first | rw [← Ny1377.out] at ho16 | (simp only [Int.reduceToNat] at ho16; rw [← Ny1377.out] at ho16)); refine nx4_ (R_lower ho16 (below_size sU_)) (blk_below (kU_ BK1374.out) hb) (blk_below (kU_ BK1375.out) hb) (below_step sU_ hb) ?_; clear BK1374 BK1375 HB; intro HO1379 BK1374 BK1375 HB; clear hb ho16) | ((with_reducible refine gate_dst (N := 20) rfl ?_); (try (refine gate_guard (by rfl) ?_; dsimp only)); refine R_lit (Kd.int .u32) _ 44 ?hg (N := 20) ?hd (xs := ([1] : List Int)) (inner := [.int .u32 1]) (ok := fun _ => True) (okp := fun _ => True) ?hr ?hp (fun _ hk => hk) trivial (Below.refl _ _) (Nat.le_refl _) (by simp) ?_; (case hd => rfl); (case hg => rfl); (case hr => first | (go_simp; done) | (go_simp; rfl)); (case hp => exact (Reps.one (show Kd.M (Kd.int .u32) _ _ _ 1 [.int .u32 1] from rfl) (Reps.none _ _))); intro v1381 w17 ho18 hb hg_ hnew_; clear hg_ hnew_; (first | rw [← Ny1380.out] at ho18 | (simp only [Int.reduceToNat] at ho18; rw [← Ny1380.out] at ho18)); refine nx5_ (R_elder' (rU_ HO1379.out) (R_base ho18) hb) (R_lower (R_new' ho18 (R_lt (rU_ HO1379.out))) (below_size sU_)) (blk_below (kU_ BK1374.out) hb) (blk_below (kU_ BK1375.out) hb) (below_step sU_ hb) ?_; clear HO1379 BK1374 BK1375 HB; intro HO1379 HO1382 BK1374 BK1375 HB; clear hb ho18; obtain ⟨Ao19, co19, eo19⟩ := R_slice HO1382.out; subst eo19; obtain ⟨Ao20, co20, eo20⟩ := R_slice HO1379.out; subst eo20) | ((with_reducible refine gate_dst (N := 6) rfl ?_); (try (refine gate_guard (by rfl) ?_; dsimp only)); refine bx_ 6 29 #[.slice none 0 0, .slice none 0 0] ?_; intro gb1383 hg w21 hbox hb; refine nx12_ (R_below (rU_ HO1379.out) hb) (R_below (rU_ HO1382.out) hb) (blk_below (kU_ BK1374.out) hb) (blk_below (kU_ BK1375.out) hb) (below_step sU_ hb) (hbox) ((hs_ hg (below_size sU_) : w.heap.size ≤ gb1383)) ((hs_ hg (below_size sU_) : w.heap.size ≤ gb1383)) ((hl_ hg (kU_ BK1374.out))) ((hm_ hg (kU_ BK1374.out))) ((hl_ hg (kU_ BK1375.out))) ((hm_ hg (kU_ BK1375.out))) ?_; clear HO1379 HO1382 BK1374 BK1375 HB; intro HO1379 HO1382 BK1374 BK1375 HB BK1383 GW1383 GE1383 NB1374_1383 NB1383_1374 NB1375_1383 NB1383_1375; clear hb hbox hg; have hnb22 := NB1383_1374.out; have hnc22 := NB1374_1383.out; have hnb23 := NB1383_1375.out; have hnc23 := NB1375_1383.out; have hcz24_0 := bc0_ BK1383.out; have hcz24_1 := bc1_ BK1383.out; have hfz24_0 := blk_frozen BK1383.out 0; have hfz24_1 := blk_frozen BK1383.out 1))
     go_loopg [7] kj4 (fun kq v7 w' => ∃ (x7_2 : Int) (x1384000_2 : List Int) (x1384001_2 : List Int) (u1384000 : Value) (u1384001 : Value), v7 = .int .i64 x7_2 ∧ Aside0 (attestorref02_Power.l0 kq a1 x7_2 l0_0 l0_1 x1384000_2 x1384001_2 = some (r1, r2, r3)) ∧ Aside0 (kq ≤ kj4) ∧ Aside0 (Kd.R (Kd.int .u32) 44 w' w.heap.size (fun k_ => some k_ ≠ (u1384001 : Value).ownBlock) u1384000 x1384000_2) ∧ Aside0 (Kd.R (Kd.int .u32) 44 w' w.heap.size (fun k_ => some k_ ≠ (u1384000 : Value).ownBlock) u1384001 x1384001_2) ∧ Aside0 (w'.heap[gb1374]? = some (.cells #[(.slice A0_0 l0_0.length c0_0), (.slice A0_1 l0_1.length c0_1)] 29 (0, 0))) ∧ Aside0 (w'.heap[gb1375]? = some (.cells #[(.slice none 0 0), (.slice none 0 0)] 29 (0, 0))) ∧ Aside0 (w'.heap[gb1383]? = some (.cells #[u1384000, u1384001] 29 (0, 0))) ∧ Aside0 (Below w.heap.size w w'))
     case atStart => exact ⟨(0), (y1377), (y1380), (.slice Ao20 y1377.length co20), (.slice Ao19 y1380.length co19), gb_, H', ⟨Nat.le_refl _⟩, ⟨by (with_reducible repeat (first | apply Kd.R_alloc | apply Kd.R_drewN | apply R_drew)); exact R_mono (R_far (p := ⟨gb1383, 1, none⟩) (R_far (p := ⟨gb1383, 0, none⟩) (R_types HO1379.out BK1383.out (by decide)) (fun _ hk => hk.2) (.slice Ao20 y1377.length co20)) (fun _ hk => hk.2) (.slice Ao19 y1380.length co19)) (fun _ hk => hk.1.2)⟩, ⟨by (with_reducible repeat (first | apply Kd.R_alloc | apply Kd.R_drewN | apply R_drew)); exact R_mono (R_far (p := ⟨gb1383, 1, none⟩) (R_far (p := ⟨gb1383, 0, none⟩) (R_types HO1382.out BK1383.out (by decide)) (fun _ hk => hk.2) (.slice Ao20 y1377.length co20)) (fun _ hk => hk.2) (.slice Ao19 y1380.length co19)) (fun _ hk => hk.1.2)⟩, ⟨by (with_reducible repeat (first | refine blk_drewN ?_ _ | refine blk_drew ?_ | refine blk_alloc ?_ _)); refine blk_far ?_ NB1374_1383.out _; (with_reducible repeat (first | refine blk_drewN ?_ _ | refine blk_drew ?_ | refine blk_alloc ?_ _)); refine blk_far ?_ NB1374_1383.out _; (with_reducible repeat (first | refine blk_drewN ?_ _ | refine blk_drew ?_ | refine blk_alloc ?_ _)); exact BK1374.out⟩, ⟨by (with_reducible repeat (first | refine blk_drewN ?_ _ | refine blk_drew ?_ | refine blk_alloc ?_ _)); refine blk_far ?_ NB1375_1383.out _; (with_reducible repeat (first | refine blk_drewN ?_ _ | refine blk_drew ?_ | refine blk_alloc ?_ _)); refine blk_far ?_ NB1375_1383.out _; (with_reducible repeat (first | refine blk_drewN ?_ _ | refine blk_drew ?_ | refine blk_alloc ?_ _)); exact BK1375.out⟩, ⟨by (with_reducible repeat (first | refine blk_drewN ?_ _ | refine blk_drew ?_ | refine blk_alloc ?_ _)); refine blk_put (cs := #[.slice Ao20 y1377.length co20, .slice none 0 0]) ?_ 1 _ rfl; (with_reducible repeat (first | refine blk_drewN ?_ _ | refine blk_drew ?_ | refine blk_alloc ?_ _)); refine blk_put (cs := #[.slice none 0 0, .slice none 0 0]) ?_ 0 _ rfl; (with_reducible repeat (first | refine blk_drewN ?_ _ | refine blk_drew ?_ | refine blk_alloc ?_ _)); exact BK1383.out⟩, ⟨sU_⟩⟩
     case round =>
      clear H'
      (try clear c1); (try clear c2); (try clear p2); (try clear c3); (try clear c4); (try clear c8); (try clear c11); (try clear c11b0); (try clear c11b1); (try clear c12); (try clear c13); (try clear c22); (try clear c23); (try clear hcz14_0); (try clear hcz14_1); (try clear hcz24_0); (try clear hcz24_1); (try clear hcz9_0); (try clear hcz9_1); (try clear hfz14_0); (try clear hfz14_1); (try clear hfz24_0); (try clear hfz24_1); (try clear hfz9_0); (try clear hfz9_1)
      obtain ⟨x7_2, x1384000_2, x1384001_2, u1384000, u1384001, rfl, HA, HK2, HO_1384000, HO_1384001, BK1374, BK1375, BK1383, HB⟩ := hrel
      cases gk with
      | zero => exact absurd HA.out (by simp [attestorref02_Power.l0])
      | succ k2 =>
       have H := HA.out
       clear HA
       simp only [attestorref02_Power.l0] at H
       by_cases c25 : x7_2 < a1
       ·rw [if_pos c25] at H
        have c25b0 := decide_eq_true c25
        clear c25
        revert H
        refine bd_ fun t1384 A26 H => ?_
        revert H
        refine bd_ fun t1387 A27 H => ?_
        by_cases c28 : (t1384.length : Int) > 64
        ·rw [if_pos c28] at H
         have c28b0 : decide (64 < (t1384.length : Int)) = true := decide_eq_true c28
         have c28b1 : decide (64 < t1384.length) = true := decide_eq_true (by omega)
         clear c28
         simp only [Option.some.injEq, Prod.mk.injEq] at H
         obtain ⟨rfl, rfl, rfl⟩ := H
         try go_wp2
         refine nx6_ (R_drew HO_1384000.out) (R_drew HO_1384001.out) (blk_drew BK1374.out) (blk_drew BK1375.out) (blk_drew BK1383.out) (below_drew1 HB.out) ?_
         clear HO_1384000 HO_1384001 BK1374 BK1375 BK1383 HB
         intro HO_1384000 HO_1384001 BK1374 BK1375 BK1383 HB
         obtain ⟨Ao30, co30, eo30⟩ := R_slice HO_1384000.out
         (first | subst eo30 | (injection eo30 with f1_ f2_ f3_; have f4_ := f1_.symm; have f5_ := f3_.symm; clear f1_ f2_ f3_; subst f4_; subst f5_))
         refine start_ (n := 12) (S := fun w' => w'.cell? ⟨gb1383, 0, none⟩ = some (.slice Ao30 x1384000_2.length co30) ∧ w'.cell? ⟨gb1383, 1, none⟩ = some (u1384001) ∧ w'.cell? ⟨gb1374, 0, none⟩ = some (.slice A0_0 l0_0.length c0_0) ∧ w'.cell? ⟨gb1374, 1, none⟩ = some (.slice A0_1 l0_1.length c0_1)) (ds := [11]) (bv 12 0) (by kernel_rfl) rfl rfl ⟨bc0_ BK1383.out, bc1_ BK1383.out, bc0_ BK1374.out, bc1_ BK1374.out⟩ (fun hHeld => ?_); refine with_tabW attestorref02_Power.tab9 attestorref02_Power.bits9 (fun HT_ HW_ => ?_)
         generalize wr.drew = w29 at HO_1384000 HO_1384001 BK1374 BK1375 BK1383 HB hHeld ⊢
         refine pq_ 0 27 12 1 HT_.out ?_
         refine pq_ 2 29 12 5 HT_.out ?_
         refine pq_ 5 32 12 37 HT_.out ?_
         refine pq_ 7 34 12 165 HT_.out ?_
         refine tq_ 1 28 12 167 HT_.out HW_.out hHeld ?_
         refine tq_ 3 30 12 175 HT_.out HW_.out hHeld ?_
         refine tq_ 6 33 12 239 HT_.out HW_.out hHeld ?_
         refine tq_ 8 35 12 495 HT_.out HW_.out hHeld ?_
         refine oq_ 4 31 12 511 HT_.out fun K hK => ?_
         refine goes_ Tryd.func63 (by kernel_rfl) rfl #[.slice Ao30 x1384000_2.length co30, .slice A0_0 l0_0.length c0_0] (by rfl) rfl rfl ga_ ?_
         with_reducible refine (attestorref02_product.calls k2 _ _ x1384000_2 _ _ l0_0 t1384 _ ?side1 ?side2 ?side3 ?side4 A26.out).mono ?_
         (case side1 => exact cU_ ((R_reads' HO_1384000.out).2.2))
         (case side2 => exact (R_reads' HO_1384000.out).2.1)
         (case side3 => exact cU_ (C_below HR0_0.out HB.out))
         (case side4 => exact HC0_0.out)
         rintro e w31 ⟨v1385, rfl, ho0, hb⟩
         refine ⟨_, rfl, ?_⟩
         refine nx7_ (R_elder' (rU_ HO_1384000.out) (R_base ho0) hb) (R_elder' (rU_ HO_1384001.out) (R_base ho0) hb) (R_lower (R_new' (R_new' ho0 (R_lt (rU_ HO_1384000.out))) (R_lt (rU_ HO_1384001.out))) (below_size sU_)) (blk_below (kU_ BK1374.out) hb) (blk_below (kU_ BK1375.out) hb) (blk_below (kU_ BK1383.out) hb) (below_step sU_ hb) ?_
         clear HO_1384000 HO_1384001 BK1374 BK1375 BK1383 HB
         intro HO_1384000 HO_1384001 HO1386 BK1374 BK1375 BK1383 HB
         (try clear hb)
         (try clear hb2)
         (try clear hk)
         (try clear hi)
         (try clear ho0)
         obtain ⟨Ao32, co32, eo32⟩ := R_slice HO_1384001.out
         (first | subst eo32 | (injection eo32 with f1_ f2_ f3_; have f4_ := f1_.symm; have f5_ := f3_.symm; clear f1_ f2_ f3_; subst f4_; subst f5_))
         refine hK.out _ _ ⟨bc0_ BK1383.out, bc1_ BK1383.out, bc0_ BK1374.out, bc1_ BK1374.out⟩ (fun hHeld => ?_)
         clear hK K
         refine norm_ (a' := ?_) ?_ ?_
         rotate_left
         ·show Act.put _ (some 31) _ = _
          simp only [Act.put, s1_, s2_, s3_, i64_w, i32_w]
          rfl
         refine oq_ 9 36 12 1023 HT_.out fun K hK => ?_
         refine goes_ Tryd.func63 (by kernel_rfl) rfl #[.slice Ao32 x1384001_2.length co32, .slice A0_1 l0_1.length c0_1] (by rfl) rfl rfl ga_ ?_
         with_reducible refine (attestorref02_product.calls k2 _ _ x1384001_2 _ _ l0_1 t1387 _ ?side1 ?side2 ?side3 ?side4 A27.out).mono ?_
         (case side1 => exact cU_ ((R_reads' HO_1384001.out).2.2))
         (case side2 => exact (R_reads' HO_1384001.out).2.1)
         (case side3 => exact cU_ (C_below HR0_1.out HB.out))
         (case side4 => exact HC0_1.out)
         rintro e w33 ⟨v1388, rfl, ho0, hb⟩
         refine ⟨_, rfl, ?_⟩
         refine nx8_ (R_elder' (rU_ HO_1384000.out) (R_base ho0) hb) (R_elder' (rU_ HO_1384001.out) (R_base ho0) hb) (R_elder' (rU_ HO1386.out) (R_base ho0) hb) (R_lower (R_new' (R_new' (R_new' ho0 (R_lt (rU_ HO_1384000.out))) (R_lt (rU_ HO_1384001.out))) (R_lt (rU_ HO1386.out))) (below_size sU_)) (blk_below (kU_ BK1374.out) hb) (blk_below (kU_ BK1375.out) hb) (blk_below (kU_ BK1383.out) hb) (below_step sU_ hb) ?_
         clear HO_1384000 HO_1384001 HO1386 BK1374 BK1375 BK1383 HB
         intro HO_1384000 HO_1384001 HO1386 HO1389 BK1374 BK1375 BK1383 HB
         (try clear hb)
         (try clear hb2)
         (try clear hk)
         (try clear hi)
         (try clear ho0)
         obtain ⟨Ao34, co34, eo34⟩ := R_slice HO1389.out
         (first | subst eo34 | (injection eo34 with f1_ f2_ f3_; have f4_ := f1_.symm; have f5_ := f3_.symm; clear f1_ f2_ f3_; subst f4_; subst f5_))
         obtain ⟨Ao35, co35, eo35⟩ := R_slice HO1386.out
         (first | subst eo35 | (injection eo35 with f1_ f2_ f3_; have f4_ := f1_.symm; have f5_ := f3_.symm; clear f1_ f2_ f3_; subst f4_; subst f5_))
         refine hK.out _ _ ⟨bc0_ BK1383.out, bc1_ BK1383.out, bc0_ BK1374.out, bc1_ BK1374.out⟩ (fun hHeld => ?_)
         clear hK K
         refine norm_ (a' := ?_) ?_ ?_
         rotate_left
         ·show Act.put _ (some 36) _ = _
          simp only [Act.put, s1_, s2_, s3_, i64_w, i32_w]
          rfl
         refine pq_ 10 37 12 2047 HT_.out ?_
         refine last_ (i := 11) (N := none) #[true, true, true, true, true, true, true, true, true, true, true, true] rfl rfl (one_of HT_.out (by kernel_rfl)) (by decide) (fun K hK => ?_)
         have hs36 : w33.cell? ⟨gb1383, 0, none⟩ = some (.slice Ao30 x1384000_2.length co30) := bc0_ BK1383.out
         have hfs36 := blk_frozen BK1383.out 0
         have hns36_0 := NB1374_1383.out
         have hns36_1 := NB1375_1383.out
         have hms36_0 := NB1383_1374.out
         have hms36_1 := NB1383_1375.out
         have hs37 : w33.cell? ⟨gb1383, 1, none⟩ = some (.slice Ao32 x1384001_2.length co32) := bc1_ BK1383.out
         have hfs37 := blk_frozen BK1383.out 1
         have hns37_0 := NB1374_1383.out
         have hns37_1 := NB1375_1383.out
         have hms37_0 := NB1383_1374.out
         have hms37_1 := NB1383_1375.out
         refine skip_ (w1 := ?_) (by rfl) rfl ?_ ?_
         rotate_left
         ·go_simp
          rfl
         refine hK.out _ _ ?_
         clear hK K
         refine done_ (done_of HT_.out (by kernel_rfl)) ?_
         have hnb38 := NB1383_1374.out
         have hnc38 := NB1374_1383.out
         have hnb39 := NB1383_1375.out
         have hnc39 := NB1375_1383.out
         have hcz40_0 := bc0_ BK1383.out
         have hcz40_1 := bc1_ BK1383.out
         have hfz40_0 := blk_frozen BK1383.out 0
         have hfz40_1 := blk_frozen BK1383.out 1
         have hnb41 := NB1375_1374.out
         have hnc41 := NB1374_1375.out
         have hcz42_0 := bc0_ BK1375.out
         have hcz42_1 := bc1_ BK1375.out
         have hfz42_0 := blk_frozen BK1375.out 0
         have hfz42_1 := blk_frozen BK1375.out 1
         try go_wp2
         refine bodyPost_ret (results_ct rfl _ _ gb1375 29 #[.slice none 0 0, .slice none 0 0] (0, 0) _ rfl kp_ Tryd.underlying29 rfl (by kernel_rfl)) rfl ?_
         exact ⟨_, _, eW_, by first | exact Kd.R_nil _ _ _ _ _ | exact Kd.N_nil _ _ _ _ _ | exact Kd.V_nil _ _ _ _ _ | exact Kd.Q_nil _ _ _ _ _ | exact Kd.S_nil _ _ _ _ _, by first | exact Kd.R_nil _ _ _ _ _ | exact Kd.N_nil _ _ _ _ _ | exact Kd.V_nil _ _ _ _ _ | exact Kd.Q_nil _ _ _ _ _ | exact Kd.S_nil _ _ _ _ _, sU_⟩
        ·rw [if_neg c28] at H
         have c28b0 : decide (64 < (t1384.length : Int)) = false := decide_eq_false c28
         have c28b1 : decide (64 < t1384.length) = false := decide_eq_false (by omega)
         clear c28
         by_cases c43 : (t1387.length : Int) > 64
         ·rw [if_pos c43] at H
          have c43b0 : decide (64 < (t1387.length : Int)) = true := decide_eq_true c43
          have c43b1 : decide (64 < t1387.length) = true := decide_eq_true (by omega)
          clear c43
          simp only [Option.some.injEq, Prod.mk.injEq] at H
          obtain ⟨rfl, rfl, rfl⟩ := H
          try go_wp2
          refine nx6_ (R_drew HO_1384000.out) (R_drew HO_1384001.out) (blk_drew BK1374.out) (blk_drew BK1375.out) (blk_drew BK1383.out) (below_drew1 HB.out) ?_
          clear HO_1384000 HO_1384001 BK1374 BK1375 BK1383 HB
          intro HO_1384000 HO_1384001 BK1374 BK1375 BK1383 HB
          obtain ⟨Ao45, co45, eo45⟩ := R_slice HO_1384000.out
          (first | subst eo45 | (injection eo45 with f1_ f2_ f3_; have f4_ := f1_.symm; have f5_ := f3_.symm; clear f1_ f2_ f3_; subst f4_; subst f5_))
          refine start_ (n := 12) (S := fun w' => w'.cell? ⟨gb1383, 0, none⟩ = some (.slice Ao45 x1384000_2.length co45) ∧ w'.cell? ⟨gb1383, 1, none⟩ = some (u1384001) ∧ w'.cell? ⟨gb1374, 0, none⟩ = some (.slice A0_0 l0_0.length c0_0) ∧ w'.cell? ⟨gb1374, 1, none⟩ = some (.slice A0_1 l0_1.length c0_1)) (ds := [11]) (bv 12 0) (by kernel_rfl) rfl rfl ⟨bc0_ BK1383.out, bc1_ BK1383.out, bc0_ BK1374.out, bc1_ BK1374.out⟩ (fun hHeld => ?_); refine with_tabW attestorref02_Power.tab9 attestorref02_Power.bits9 (fun HT_ HW_ => ?_)
          generalize wr.drew = w44 at HO_1384000 HO_1384001 BK1374 BK1375 BK1383 HB hHeld ⊢
          refine pq_ 0 27 12 1 HT_.out ?_
          refine pq_ 2 29 12 5 HT_.out ?_
          refine pq_ 5 32 12 37 HT_.out ?_
          refine pq_ 7 34 12 165 HT_.out ?_
          refine tq_ 1 28 12 167 HT_.out HW_.out hHeld ?_
          refine tq_ 3 30 12 175 HT_.out HW_.out hHeld ?_
          refine tq_ 6 33 12 239 HT_.out HW_.out hHeld ?_
          refine tq_ 8 35 12 495 HT_.out HW_.out hHeld ?_
          refine oq_ 4 31 12 511 HT_.out fun K hK => ?_
          refine goes_ Tryd.func63 (by kernel_rfl) rfl #[.slice Ao45 x1384000_2.length co45, .slice A0_0 l0_0.length c0_0] (by rfl) rfl rfl ga_ ?_
          with_reducible refine (attestorref02_product.calls k2 _ _ x1384000_2 _ _ l0_0 t1384 _ ?side1 ?side2 ?side3 ?side4 A26.out).mono ?_
          (case side1 => exact cU_ ((R_reads' HO_1384000.out).2.2))
          (case side2 => exact (R_reads' HO_1384000.out).2.1)
          (case side3 => exact cU_ (C_below HR0_0.out HB.out))
          (case side4 => exact HC0_0.out)
          rintro e w46 ⟨v1385, rfl, ho0, hb⟩
          refine ⟨_, rfl, ?_⟩
          refine nx7_ (R_elder' (rU_ HO_1384000.out) (R_base ho0) hb) (R_elder' (rU_ HO_1384001.out) (R_base ho0) hb) (R_lower (R_new' (R_new' ho0 (R_lt (rU_ HO_1384000.out))) (R_lt (rU_ HO_1384001.out))) (below_size sU_)) (blk_below (kU_ BK1374.out) hb) (blk_below (kU_ BK1375.out) hb) (blk_below (kU_ BK1383.out) hb) (below_step sU_ hb) ?_
          clear HO_1384000 HO_1384001 BK1374 BK1375 BK1383 HB
          intro HO_1384000 HO_1384001 HO1386 BK1374 BK1375 BK1383 HB
          (try clear hb)
          (try clear hb2)
          (try clear hk)
          (try clear hi)
          (try clear ho0)
          obtain ⟨Ao47, co47, eo47⟩ := R_slice HO_1384001.out
          (first | subst eo47 | (injection eo47 with f1_ f2_ f3_; have f4_ := f1_.symm; have f5_ := f3_.symm; clear f1_ f2_ f3_; subst f4_; subst f5_))
          refine hK.out _ _ ⟨bc0_ BK1383.out, bc1_ BK1383.out, bc0_ BK1374.out, bc1_ BK1374.out⟩ (fun hHeld => ?_)
          clear hK K
          refine norm_ (a' := ?_) ?_ ?_
          rotate_left
          ·show Act.put _ (some 31) _ = _
           simp only [Act.put, s1_, s2_, s3_, i64_w, i32_w]
           rfl
          refine oq_ 9 36 12 1023 HT_.out fun K hK => ?_
          refine goes_ Tryd.func63 (by kernel_rfl) rfl #[.slice Ao47 x1384001_2.length co47, .slice A0_1 l0_1.length c0_1] (by rfl) rfl rfl ga_ ?_
          with_reducible refine (attestorref02_product.calls k2 _ _ x1384001_2 _ _ l0_1 t1387 _ ?side1 ?side2 ?side3 ?side4 A27.out).mono ?_
          (case side1 => exact cU_ ((R_reads' HO_1384001.out).2.2))
          (case side2 => exact (R_reads' HO_1384001.out).2.1)
          (case side3 => exact cU_ (C_below HR0_1.out HB.out))
          (case side4 => exact HC0_1.out)
          rintro e w48 ⟨v1388, rfl, ho0, hb⟩
          refine ⟨_, rfl, ?_⟩
          refine nx8_ (R_elder' (rU_ HO_1384000.out) (R_base ho0) hb) (R_elder' (rU_ HO_1384001.out) (R_base ho0) hb) (R_elder' (rU_ HO1386.out) (R_base ho0) hb) (R_lower (R_new' (R_new' (R_new' ho0 (R_lt (rU_ HO_1384000.out))) (R_lt (rU_ HO_1384001.out))) (R_lt (rU_ HO1386.out))) (below_size sU_)) (blk_below (kU_ BK1374.out) hb) (blk_below (kU_ BK1375.out) hb) (blk_below (kU_ BK1383.out) hb) (below_step sU_ hb) ?_
          clear HO_1384000 HO_1384001 HO1386 BK1374 BK1375 BK1383 HB
          intro HO_1384000 HO_1384001 HO1386 HO1389 BK1374 BK1375 BK1383 HB
          (try clear hb)
          (try clear hb2)
          (try clear hk)
          (try clear hi)
          (try clear ho0)
          obtain ⟨Ao49, co49, eo49⟩ := R_slice HO1389.out
          (first | subst eo49 | (injection eo49 with f1_ f2_ f3_; have f4_ := f1_.symm; have f5_ := f3_.symm; clear f1_ f2_ f3_; subst f4_; subst f5_))
          obtain ⟨Ao50, co50, eo50⟩ := R_slice HO1386.out
          (first | subst eo50 | (injection eo50 with f1_ f2_ f3_; have f4_ := f1_.symm; have f5_ := f3_.symm; clear f1_ f2_ f3_; subst f4_; subst f5_))
          refine hK.out _ _ ⟨bc0_ BK1383.out, bc1_ BK1383.out, bc0_ BK1374.out, bc1_ BK1374.out⟩ (fun hHeld => ?_)
          clear hK K
          refine norm_ (a' := ?_) ?_ ?_
          rotate_left
          ·show Act.put _ (some 36) _ = _
           simp only [Act.put, s1_, s2_, s3_, i64_w, i32_w]
           rfl
          refine pq_ 10 37 12 2047 HT_.out ?_
          refine last_ (i := 11) (N := none) #[true, true, true, true, true, true, true, true, true, true, true, true] rfl rfl (one_of HT_.out (by kernel_rfl)) (by decide) (fun K hK => ?_)
          have hs51 : w48.cell? ⟨gb1383, 0, none⟩ = some (.slice Ao45 x1384000_2.length co45) := bc0_ BK1383.out
          have hfs51 := blk_frozen BK1383.out 0
          have hns51_0 := NB1374_1383.out
          have hns51_1 := NB1375_1383.out
          have hms51_0 := NB1383_1374.out
          have hms51_1 := NB1383_1375.out
          have hs52 : w48.cell? ⟨gb1383, 1, none⟩ = some (.slice Ao47 x1384001_2.length co47) := bc1_ BK1383.out
          have hfs52 := blk_frozen BK1383.out 1
          have hns52_0 := NB1374_1383.out
          have hns52_1 := NB1375_1383.out
          have hms52_0 := NB1383_1374.out
          have hms52_1 := NB1383_1375.out
          refine skip_ (w1 := ?_) (by rfl) rfl ?_ ?_
          rotate_left
          ·go_simp
           rfl
          refine hK.out _ _ ?_
          clear hK K
          refine done_ (done_of HT_.out (by kernel_rfl)) ?_
          have hnb53 := NB1383_1374.out
          have hnc53 := NB1374_1383.out
          have hnb54 := NB1383_1375.out
          have hnc54 := NB1375_1383.out
          have hcz55_0 := bc0_ BK1383.out
          have hcz55_1 := bc1_ BK1383.out
          have hfz55_0 := blk_frozen BK1383.out 0
          have hfz55_1 := blk_frozen BK1383.out 1
          have hnb56 := NB1375_1374.out
          have hnc56 := NB1374_1375.out
          have hcz57_0 := bc0_ BK1375.out
          have hcz57_1 := bc1_ BK1375.out
          have hfz57_0 := blk_frozen BK1375.out 0
          have hfz57_1 := blk_frozen BK1375.out 1
          try go_wp2
          refine bodyPost_ret (results_ct rfl _ _ gb1375 29 #[.slice none 0 0, .slice none 0 0] (0, 0) _ rfl kp_ Tryd.underlying29 rfl (by kernel_rfl)) rfl ?_
          exact ⟨_, _, eW_, by first | exact Kd.R_nil _ _ _ _ _ | exact Kd.N_nil _ _ _ _ _ | exact Kd.V_nil _ _ _ _ _ | exact Kd.Q_nil _ _ _ _ _ | exact Kd.S_nil _ _ _ _ _, by first | exact Kd.R_nil _ _ _ _ _ | exact Kd.N_nil _ _ _ _ _ | exact Kd.V_nil _ _ _ _ _ | exact Kd.Q_nil _ _ _ _ _ | exact Kd.S_nil _ _ _ _ _, sU_⟩
         ·rw [if_neg c43] at H
          have c43b0 : decide (64 < (t1387.length : Int)) = false := decide_eq_false c43
          have c43b1 : decide (64 < t1387.length) = false := decide_eq_false (by omega)
          clear c43
          have H' := ak H
          clear H
          try go_wp2
          refine nx6_ (R_drew HO_1384000.out) (R_drew HO_1384001.out) (blk_drew BK1374.out) (blk_drew BK1375.out) (blk_drew BK1383.out) (below_drew1 HB.out) ?_
          clear HO_1384000 HO_1384001 BK1374 BK1375 BK1383 HB
          intro HO_1384000 HO_1384001 BK1374 BK1375 BK1383 HB
          obtain ⟨Ao59, co59, eo59⟩ := R_slice HO_1384000.out
          (first | subst eo59 | (injection eo59 with f1_ f2_ f3_; have f4_ := f1_.symm; have f5_ := f3_.symm; clear f1_ f2_ f3_; subst f4_; subst f5_))
          refine start_ (n := 12) (S := fun w' => w'.cell? ⟨gb1383, 0, none⟩ = some (.slice Ao59 x1384000_2.length co59) ∧ w'.cell? ⟨gb1383, 1, none⟩ = some (u1384001) ∧ w'.cell? ⟨gb1374, 0, none⟩ = some (.slice A0_0 l0_0.length c0_0) ∧ w'.cell? ⟨gb1374, 1, none⟩ = some (.slice A0_1 l0_1.length c0_1)) (ds := [11]) (bv 12 0) (by kernel_rfl) rfl rfl ⟨bc0_ BK1383.out, bc1_ BK1383.out, bc0_ BK1374.out, bc1_ BK1374.out⟩ (fun hHeld => ?_); refine with_tabW attestorref02_Power.tab9 attestorref02_Power.bits9 (fun HT_ HW_ => ?_)
          generalize wr.drew = w58 at HO_1384000 HO_1384001 BK1374 BK1375 BK1383 HB hHeld ⊢
          refine pq_ 0 27 12 1 HT_.out ?_
          refine pq_ 2 29 12 5 HT_.out ?_
          refine pq_ 5 32 12 37 HT_.out ?_
          refine pq_ 7 34 12 165 HT_.out ?_
          refine tq_ 1 28 12 167 HT_.out HW_.out hHeld ?_
          refine tq_ 3 30 12 175 HT_.out HW_.out hHeld ?_
          refine tq_ 6 33 12 239 HT_.out HW_.out hHeld ?_
          refine tq_ 8 35 12 495 HT_.out HW_.out hHeld ?_
          refine oq_ 4 31 12 511 HT_.out fun K hK => ?_
          refine goes_ Tryd.func63 (by kernel_rfl) rfl #[.slice Ao59 x1384000_2.length co59, .slice A0_0 l0_0.length c0_0] (by rfl) rfl rfl ga_ ?_
          with_reducible refine (attestorref02_product.calls k2 _ _ x1384000_2 _ _ l0_0 t1384 _ ?side1 ?side2 ?side3 ?side4 A26.out).mono ?_
          (case side1 => exact cU_ ((R_reads' HO_1384000.out).2.2))
          (case side2 => exact (R_reads' HO_1384000.out).2.1)
          (case side3 => exact cU_ (C_below HR0_0.out HB.out))
          (case side4 => exact HC0_0.out)
          rintro e w60 ⟨v1385, rfl, ho0, hb⟩
          refine ⟨_, rfl, ?_⟩
          refine nx7_ (R_elder' (rU_ HO_1384000.out) (R_base ho0) hb) (R_elder' (rU_ HO_1384001.out) (R_base ho0) hb) (R_lower (R_new' (R_new' ho0 (R_lt (rU_ HO_1384000.out))) (R_lt (rU_ HO_1384001.out))) (below_size sU_)) (blk_below (kU_ BK1374.out) hb) (blk_below (kU_ BK1375.out) hb) (blk_below (kU_ BK1383.out) hb) (below_step sU_ hb) ?_
          clear HO_1384000 HO_1384001 BK1374 BK1375 BK1383 HB
          intro HO_1384000 HO_1384001 HO1386 BK1374 BK1375 BK1383 HB
          (try clear hb)
          (try clear hb2)
          (try clear hk)
          (try clear hi)
          (try clear ho0)
          obtain ⟨Ao61, co61, eo61⟩ := R_slice HO_1384001.out
          (first | subst eo61 | (injection eo61 with f1_ f2_ f3_; have f4_ := f1_.symm; have f5_ := f3_.symm; clear f1_ f2_ f3_; subst f4_; subst f5_))
          refine hK.out _ _ ⟨bc0_ BK1383.out, bc1_ BK1383.out, bc0_ BK1374.out, bc1_ BK1374.out⟩ (fun hHeld => ?_)
          clear hK K
          refine norm_ (a' := ?_) ?_ ?_
          rotate_left
          ·show Act.put _ (some 31) _ = _
           simp only [Act.put, s1_, s2_, s3_, i64_w, i32_w]
           rfl
          refine oq_ 9 36 12 1023 HT_.out fun K hK => ?_
          refine goes_ Tryd.func63 (by kernel_rfl) rfl #[.slice Ao61 x1384001_2.length co61, .slice A0_1 l0_1.length c0_1] (by rfl) rfl rfl ga_ ?_
          with_reducible refine (attestorref02_product.calls k2 _ _ x1384001_2 _ _ l0_1 t1387 _ ?side1 ?side2 ?side3 ?side4 A27.out).mono ?_
          (case side1 => exact cU_ ((R_reads' HO_1384001.out).2.2))
          (case side2 => exact (R_reads' HO_1384001.out).2.1)
          (case side3 => exact cU_ (C_below HR0_1.out HB.out))
          (case side4 => exact HC0_1.out)
          rintro e w62 ⟨v1388, rfl, ho0, hb⟩
          refine ⟨_, rfl, ?_⟩
          refine nx8_ (R_elder' (rU_ HO_1384000.out) (R_base ho0) hb) (R_elder' (rU_ HO_1384001.out) (R_base ho0) hb) (R_elder' (rU_ HO1386.out) (R_base ho0) hb) (R_lower (R_new' (R_new' (R_new' ho0 (R_lt (rU_ HO_1384000.out))) (R_lt (rU_ HO_1384001.out))) (R_lt (rU_ HO1386.out))) (below_size sU_)) (blk_below (kU_ BK1374.out) hb) (blk_below (kU_ BK1375.out) hb) (blk_below (kU_ BK1383.out) hb) (below_step sU_ hb) ?_
          clear HO_1384000 HO_1384001 HO1386 BK1374 BK1375 BK1383 HB
          intro HO_1384000 HO_1384001 HO1386 HO1389 BK1374 BK1375 BK1383 HB
          (try clear hb)
          (try clear hb2)
          (try clear hk)
          (try clear hi)
          (try clear ho0)
          obtain ⟨Ao63, co63, eo63⟩ := R_slice HO1389.out
          (first | subst eo63 | (injection eo63 with f1_ f2_ f3_; have f4_ := f1_.symm; have f5_ := f3_.symm; clear f1_ f2_ f3_; subst f4_; subst f5_))
          obtain ⟨Ao64, co64, eo64⟩ := R_slice HO1386.out
          (first | subst eo64 | (injection eo64 with f1_ f2_ f3_; have f4_ := f1_.symm; have f5_ := f3_.symm; clear f1_ f2_ f3_; subst f4_; subst f5_))
          refine hK.out _ _ ⟨bc0_ BK1383.out, bc1_ BK1383.out, bc0_ BK1374.out, bc1_ BK1374.out⟩ (fun hHeld => ?_)
          clear hK K
          refine norm_ (a' := ?_) ?_ ?_
          rotate_left
          ·show Act.put _ (some 36) _ = _
           simp only [Act.put, s1_, s2_, s3_, i64_w, i32_w]
           rfl
          refine pq_ 10 37 12 2047 HT_.out ?_
          refine last_ (i := 11) (N := none) #[true, true, true, true, true, true, true, true, true, true, true, true] rfl rfl (one_of HT_.out (by kernel_rfl)) (by decide) (fun K hK => ?_)
          have hs65 : w62.cell? ⟨gb1383, 0, none⟩ = some (.slice Ao59 x1384000_2.length co59) := bc0_ BK1383.out
          have hfs65 := blk_frozen BK1383.out 0
          have hns65_0 := NB1374_1383.out
          have hns65_1 := NB1375_1383.out
          have hms65_0 := NB1383_1374.out
          have hms65_1 := NB1383_1375.out
          have hs66 : w62.cell? ⟨gb1383, 1, none⟩ = some (.slice Ao61 x1384001_2.length co61) := bc1_ BK1383.out
          have hfs66 := blk_frozen BK1383.out 1
          have hns66_0 := NB1374_1383.out
          have hns66_1 := NB1375_1383.out
          have hms66_0 := NB1383_1374.out
          have hms66_1 := NB1383_1375.out
          refine skip_ (w1 := ?_) (by rfl) rfl ?_ ?_
          rotate_left
          ·go_simp
           rfl
          refine hK.out _ _ ?_
          clear hK K
          refine done_ (done_of HT_.out (by kernel_rfl)) ?_
          have hnb67 := NB1383_1374.out
          have hnc67 := NB1374_1383.out
          have hnb68 := NB1383_1375.out
          have hnc68 := NB1375_1383.out
          have hcz69_0 := bc0_ BK1383.out
          have hcz69_1 := bc1_ BK1383.out
          have hfz69_0 := blk_frozen BK1383.out 0
          have hfz69_1 := blk_frozen BK1383.out 1
          try go_wp2
          go_roundg k2
          case measure => have := HJ4.out; have := HK2.out; omega
          case rel => exact ⟨(wrap64 (x7_2 + 1)), (t1384), (t1387), (.slice Ao64 t1384.length co64), (.slice Ao63 t1387.length co63), gb_, H', ⟨by have := HJ4.out; have := HK2.out; omega⟩, ⟨by (with_reducible repeat (first | apply Kd.R_alloc | apply Kd.R_drewN | apply R_drew)); exact R_mono (R_far (p := ⟨gb1383, 1, none⟩) (R_far (p := ⟨gb1383, 0, none⟩) (R_types HO1386.out BK1383.out (by decide)) (fun _ hk => hk.2) (.slice Ao64 t1384.length co64)) (fun _ hk => hk.2) (.slice Ao63 t1387.length co63)) (fun _ hk => hk.1.2)⟩, ⟨by (with_reducible repeat (first | apply Kd.R_alloc | apply Kd.R_drewN | apply R_drew)); exact R_mono (R_far (p := ⟨gb1383, 1, none⟩) (R_far (p := ⟨gb1383, 0, none⟩) (R_types HO1389.out BK1383.out (by decide)) (fun _ hk => hk.2) (.slice Ao64 t1384.length co64)) (fun _ hk => hk.2) (.slice Ao63 t1387.length co63)) (fun _ hk => hk.1.2)⟩, ⟨by (with_reducible repeat (first | refine blk_drewN ?_ _ | refine blk_drew ?_ | refine blk_alloc ?_ _)); refine blk_far ?_ NB1374_1383.out _; (with_reducible repeat (first | refine blk_drewN ?_ _ | refine blk_drew ?_ | refine blk_alloc ?_ _)); refine blk_far ?_ NB1374_1383.out _; (with_reducible repeat (first | refine blk_drewN ?_ _ | refine blk_drew ?_ | refine blk_alloc ?_ _)); exact BK1374.out⟩, ⟨by (with_reducible repeat (first | refine blk_drewN ?_ _ | refine blk_drew ?_ | refine blk_alloc ?_ _)); refine blk_far ?_ NB1375_1383.out _; (with_reducible repeat (first | refine blk_drewN ?_ _ | refine blk_drew ?_ | refine blk_alloc ?_ _)); refine blk_far ?_ NB1375_1383.out _; (with_reducible repeat (first | refine blk_drewN ?_ _ | refine blk_drew ?_ | refine blk_alloc ?_ _)); exact BK1375.out⟩, ⟨by (with_reducible repeat (first | refine blk_drewN ?_ _ | refine blk_drew ?_ | refine blk_alloc ?_ _)); refine blk_put (cs := #[.slice Ao64 t1384.length co64, .slice Ao61 x1384001_2.length co61]) ?_ 1 _ rfl; (with_reducible repeat (first | refine blk_drewN ?_ _ | refine blk_drew ?_ | refine blk_alloc ?_ _)); refine blk_put (cs := #[.slice Ao59 x1384000_2.length co59, .slice Ao61 x1384001_2.length co61]) ?_ 0 _ rfl; (with_reducible repeat (first | refine blk_drewN ?_ _ | refine blk_drew ?_ | refine blk_alloc ?_ _)); exact BK1383.out⟩, ⟨sU_⟩⟩
       ·rw [if_neg c25] at H
        have c25b0 := decide_eq_false c25
        clear c25
        simp only [Option.some.injEq, Prod.mk.injEq] at H
        obtain ⟨rfl, rfl, rfl⟩ := H
        have hnb70 := NB1383_1374.out
        have hnc70 := NB1374_1383.out
        have hnb71 := NB1383_1375.out
        have hnc71 := NB1375_1383.out
        have hcz72_0 := bc0_ BK1383.out
        have hcz72_1 := bc1_ BK1383.out
        have hfz72_0 := blk_frozen BK1383.out 0
        have hfz72_1 := blk_frozen BK1383.out 1
        obtain ⟨Ao73, co73, eo73⟩ := R_slice HO_1384000.out
        subst eo73
        have hnb74 := NB1375_1374.out
        have hnc74 := NB1374_1375.out
        have hcz75_0 := bc0_ BK1375.out
        have hcz75_1 := bc1_ BK1375.out
        have hfz75_0 := blk_frozen BK1375.out 0
        have hfz75_1 := blk_frozen BK1375.out 1
        obtain ⟨Ao76, co76, eo76⟩ := R_slice HO_1384001.out
        subst eo76
        go_wp2
        refine bodyPost_ret (results_ct rfl _ _ gb1375 29 #[.slice Ao73 x1384000_2.length co73, .slice Ao76 x1384001_2.length co76] (0, 0) _ rfl kp_ Tryd.underlying29 rfl (by kernel_rfl)) rfl ?_
        exact ⟨_, _, eW_, by (with_reducible repeat (first | apply Kd.R_alloc | apply Kd.R_drewN | apply R_drew)); exact R_mono (R_far (p := ⟨gb1375, 1, none⟩) (R_far (p := ⟨gb1375, 0, none⟩) (R_types HO_1384000.out BK1375.out (by decide)) (fun _ hk => hk.2) (.slice Ao73 x1384000_2.length co73)) (fun _ hk => hk.2) (.slice Ao76 x1384001_2.length co76)) (fun _ hk => hk.1), by (with_reducible repeat (first | apply Kd.R_alloc | apply Kd.R_drewN | apply R_drew)); exact R_mono (R_far (p := ⟨gb1375, 1, none⟩) (R_far (p := ⟨gb1375, 0, none⟩) (R_types HO_1384001.out BK1375.out (by decide)) (fun _ hk => hk.2) (.slice Ao73 x1384000_2.length co73)) (fun _ hk => hk.2) (.slice Ao76 x1384001_2.length co76)) (fun _ hk => hk.1), sU_⟩
 ·replace c4 := Bool.eq_false_iff.mpr c4
  subst c4
  rw [if_neg (show ¬ (false = true) by decide)] at H
  simp only [Option.some.injEq, Prod.mk.injEq] at H
  obtain ⟨rfl, rfl, rfl⟩ := H
  go_enter Tryd.func45, Tryd.ntmps45
  go_wp2_with (first | ((with_reducible refine gate_dst (N := 2) rfl ?_); (try (refine gate_guard (by rfl) ?_; dsimp only)); refine bx_ 2 29 #[.slice A0_0 l0_0.length c0_0, .slice A0_1 l0_1.length c0_1] ?_; intro gb1374 hg w77 hbox hb; refine nx4_ (below_step (bU_ HB.out) hb) (hbox) ((hs_ hg (below_size (bU_ HB.out)))) ((hs_ hg (below_size (bU_ HB.out)))) ?_; clear HB; intro HB BK1374 GW1374 GE1374; clear hb hbox hg) | ((with_reducible refine gate_dst (N := 4) rfl ?_); (try (refine gate_guard (by rfl) ?_; dsimp only)); refine bx_ 4 29 #[.slice none 0 0, .slice none 0 0] ?_; intro gb1375 hg w78 hbox hb; refine nx7_ (blk_below (kU_ BK1374.out) hb) (below_step sU_ hb) (hbox) ((hs_ hg (below_size sU_) : w.heap.size ≤ gb1375)) ((hs_ hg (below_size sU_) : w.heap.size ≤ gb1375)) ((hl_ hg (kU_ BK1374.out))) ((hm_ hg (kU_ BK1374.out))) ?_; clear BK1374 HB; intro BK1374 HB BK1375 GW1375 GE1375 NB1374_1375 NB1375_1374; clear hb hbox hg; have hnb79 := NB1374_1375.out; have hnc79 := NB1375_1374.out; have hcz80_0 := bc0_ BK1374.out; have hcz80_1 := bc1_ BK1374.out; have hfz80_0 := blk_frozen BK1374.out 0; have hfz80_1 := blk_frozen BK1374.out 1) | ((with_reducible refine gate_callee (f := 38) rfl ?_); refine gl_ (some 9) Tryd.func38 #[.agg #[.slice A0_0 l0_0.length c0_0, .slice A0_1 l0_1.length c0_1]] ?_; (with_reducible refine (attestorref02_Valid.calls k _ _ l0_0 _ _ l0_1 false _ ?side1 ?side2 ?side3 ?side4 A3.out).mono ?_); (case side1 => exact cU_ (C_below HR0_0.out HB.out)); (case side2 => exact HC0_0.out); (case side3 => exact cU_ (C_below HR0_1.out HB.out)); (case side4 => exact HC0_1.out); rintro e w81 ⟨rfl, hb⟩; refine ⟨_, rfl, ?_⟩; refine nx3_ (blk_below (kU_ BK1374.out) hb) (blk_below (kU_ BK1375.out) hb) (below_step sU_ hb) ?_; clear BK1374 BK1375 HB; intro BK1374 BK1375 HB; clear hb; have hcz82_0 := bc0_ BK1375.out; have hcz82_1 := bc1_ BK1375.out; have hfz82_0 := blk_frozen BK1375.out 0; have hfz82_1 := blk_frozen BK1375.out 1))
  refine bodyPost_ret (results_ct rfl _ _ gb1375 29 #[.slice none 0 0, .slice none 0 0] (0, 0) _ rfl kp_ Tryd.underlying29 rfl (by kernel_rfl)) rfl ?_
  exact ⟨_, _, eW_, by first | exact Kd.R_nil _ _ _ _ _ | exact Kd.N_nil _ _ _ _ _ | exact Kd.V_nil _ _ _ _ _ | exact Kd.Q_nil _ _ _ _ _ | exact Kd.S_nil _ _ _ _ _, by first | exact Kd.R_nil _ _ _ _ _ | exact Kd.N_nil _ _ _ _ _ | exact Kd.V_nil _ _ _ _ _ | exact Kd.Q_nil _ _ _ _ _ | exact Kd.S_nil _ _ _ _ _, sU_⟩

end Go.Proofs.YtjjjoepnlhpjdaaDoor.Q

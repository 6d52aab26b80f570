import Derived.Test.YthinfmfjpaikiaaDoorQ0
import Derived.Test.YthinfmfjpaikiaaDoorQ3
import Derived.Test.YthinfmfjpaikiaaDoorQ10
import Derived.Test.YthinfmfjpaikiaaDoorQ12
import Derived.Test.YthinfmfjpaikiaaDoorQ13
namespace Go.Proofs.YthinfmfjpaikiaaDoor.Q
open Go.RowKit Go.Proofs.YthinfmfjpaikiaaDoorW.PrintWords Go.Proofs.YthinfmfjpaikiaaDoorW.PrintLast Go.Proofs.YthinfmfjpaikiaaDoorW.PrintMore
open Kd (R_below R_mono R_far R_types R_lower R_new' R_elder' R_base R_lt R_slice R_reads' V_below V_mono V_lower V_slice V_reads' C_below fresh' freshB R_drew V_drew)
attribute [local go_sem] max2_int min2_int max_two min_two max_three min_three max_four min_four   -- for this text's walks alone
attribute [local go_sem high] eqA8
set_option linter.unusedVariables false
set_option linter.unusedSimpArgs false

mutual
def attestorlaw09_FoldWords.j0 : Nat → List Int → List Int → Int → List Int → Int → Int → Int → Int → Option (Bool)
 | 0, _, _, _, _, _, _, _, _ => none
 | k + 1, x1, x2, x3, x9, x10, x445000, x445001, x445002 => (fold_Word.f k x445000 x445001 x445002 x1 x10).bind fun bt458 => ((attestorref09_Word.f k x445000 x445001 x445002 x9 x10).bind fun bt462 => ((fold_Words.f k x445000 x445001 x445002 x1 x2).bind fun bt466 => ((attestorref09_Words.f k x445000 x445001 x445002 x9 x2).bind fun bt470 => ((fold_Leaf.f k x445000 x445001 x445002 x1 x3).bind fun t474 => ((attestorref09_Leaf.f k x445000 x445001 x445002 x9 x3).bind fun t475 => (if (((bco t474 0) == (bco t475 0) && ((bco t474 1) == (bco t475 1) && ((bco t474 2) == (bco t475 2) && ((bco t474 3) == (bco t475 3) && ((bco t474 4) == (bco t475 4) && ((bco t474 5) == (bco t475 5) && ((bco t474 6) == (bco t475 6) && ((bco t474 7) == (bco t475 7))))))))) = true) then (if bt458.2 = bt462.2 then ((attestorref01_Same.f k bt458.1 bt462.1).bind fun t476 => (if t476 = true then (if bt466.2 = bt470.2 then ((attestorref03_SameLists.f k bt466.1 bt470.1).bind fun t477 => (if t477 = true then (attestorlaw09_FoldWords.j1 k x1 x9 bt466.1) else (none))) else (none)) else (none))) else (none)) else (none)))))))
def attestorlaw09_FoldWords.j1 : Nat → List Int → List Int → List (List Int) → Option (Bool)
 | 0, _, _, _ => none
 | k + 1, x1, x9, x15 => attestorlaw09_FoldWords.l0 k x1 x9 x15 0
def attestorlaw09_FoldWords.l0 : Nat → List Int → List Int → List (List Int) → Int → Option (Bool)
 | 0, _, _, _, _ => none
 | k + 1, x1, x9, x15, x19 => if x19 < (x15.length : Int) then (attestorlaw09_FoldWords.j3 k x1 x9 x15 x19) else ((attestorref01_Same.f k x1 x9).bind fun t478 => (if t478 = true then ((attestorlaw09_works.f k).bind fun t479 => (some t479)) else (none)))
def attestorlaw09_FoldWords.j3 : Nat → List Int → List Int → List (List Int) → Int → Option (Bool)
 | 0, _, _, _, _ => none
 | k + 1, x1, x9, x15, x19 => attestorlaw09_FoldWords.l1 k x1 x9 x15 x19 0
def attestorlaw09_FoldWords.l1 : Nat → List Int → List Int → List (List Int) → Int → Int → Option (Bool)
 | 0, _, _, _, _, _ => none
 | k + 1, x1, x9, x15, x19, x20 => if 0 ≤ x19 then (if x19 < (x15.length : Int) then (if x20 < ((rd_L1 x15 x19).length : Int) then (if 0 ≤ x20 then (attestorlaw09_FoldWords.l1 k x1 x9 (x15.set (x19 : Int).toNat ((rd_L1 x15 x19).set (x20 : Int).toNat 5)) x19 (wrap64 (x20 + 1))) else (none)) else (attestorlaw09_FoldWords.l0 k x1 x9 x15 (wrap64 (x19 + 1)))) else (none)) else (none)
end
def attestorlaw09_FoldWords.f (k : Nat) (a0_0 : Int) (a0_1 : Int) (a0_2 : Int) (l1 : List Int) (l2 : List Int) (a3 : Int) : Option (Bool) := (attestorlaw09_small.f a0_0 a0_1 a0_2).bind fun bt445 => ((attestorlaw09_own.f l1 70).bind fun t448 => ((attestorlaw09_own.f l2 4).bind fun t451 => ((attestorlaw09_own.f t448 70).bind fun t454 => (if (t451.length : Int) > 0 then (if 0 < (t451.length : Int) then (attestorlaw09_FoldWords.j0 k t448 t451 a3 t454 (rd t451 0) bt445.1 bt445.2.1 bt445.2.2) else (none)) else (attestorlaw09_FoldWords.j0 k t448 t451 a3 t454 (IntKind.u64.wrap (a3)) bt445.1 bt445.2.1 bt445.2.2)))))
def attestorlaw09_FoldWords.T10 : Bool × List (List Nat × List Nat) := (true, [([], []), ([], []), ([], []), ([0, 1, 2], [0, 1, 2]), ([], []), ([], []), ([], []), ([4, 5, 6, 3], [4, 5, 6]), ([3, 7], [3, 7]), ([8, 7], [8]), ([9], [9]), ([9], [9]), ([10, 11, 9], [9, 10, 11]), ([9, 12], [9, 12]), ([13, 9], [13]), ([14], [14]), ([14], [14]), ([15, 16, 14, 14], [14, 15, 16]), ([17, 14], [14, 17]), ([14, 18], [14, 18]), ([19, 17], [19]), ([20], [20]), ([20], [20]), ([21, 22, 20], [20, 21, 22]), ([20, 23], [20, 23]), ([24, 20], [24]), ([25], [25]), ([25], [25]), ([26, 27, 25, 25], [25, 26, 27]), ([28, 25], [25, 28]), ([25, 29], [25, 29])])
def attestorlaw09_FoldWords.B10 : List Nat := [0, 0, 0, 7, 0, 0, 0, 127, 255, 511, 1023, 1023, 4095, 8191, 16383, 32767, 32767, 131071, 262143, 524287, 1048575, 2097151, 2097151, 8388607, 16777215, 33554431, 67108863, 67108863, 268435455, 536870911, 1073741823]
theorem attestorlaw09_FoldWords.tab10 : rtab .any (opsOf Tryd.f6 10) = attestorlaw09_FoldWords.T10 := by kernel_rfl
theorem attestorlaw09_FoldWords.bits10 : waitsOk attestorlaw09_FoldWords.T10.2 attestorlaw09_FoldWords.B10 = true := by kernel_rfl
set_option maxHeartbeats 8000000 in
set_option maxRecDepth 100000 in
theorem attestorlaw09_FoldWords.calls (k : Nat) (a0_0 : Int) (a0_1 : Int) (a0_2 : Int) (A1 : Option Addr) (c1 : Nat) (l1 : List Int) (A2 : Option Addr) (c2 : Nat) (l2 : List Int) (a3 : Int) (r : Bool) (w : World) (hG : Fld w) (hr1 : Kd.C (Kd.int .u64) w A1 l1.length l1) (hc1 : l1.length ≤ c1) (hr2 : Kd.C (Kd.int .u64) w A2 l2.length l2) (hc2 : l2.length ≤ c2) (h : attestorlaw09_FoldWords.f k a0_0 a0_1 a0_2 l1 l2 a3 = some r) :
  Calls Tryd.prog 6 #[.agg #[.int .i64 a0_0, .int .i64 a0_1, .int .u64 a0_2], .slice A1 l1.length c1, .slice A2 l2.length c2, .int .i64 a3] w fun e w' => e = .returned (.bool r) ∧ Below w.heap.size w w' := by
 have hu24 := Tryd.underlying24
 have HG := ak hG
 clear hG
 have HR1 := ak hr1
 have HC1 := ak hc1
 clear hr1 hc1
 have HR2 := ak hr2
 have HC2 := ak hc2
 clear hr2 hc2
 have HB := ak (Below.refl w.heap.size w)
 have H := h
 clear h
 unfold attestorlaw09_FoldWords.f at H
 revert H
 refine bd3_ fun t445 t446 t447 A5 H => ?_
 try dsimp only at H
 revert H
 refine bd_ fun t448 A6 H => ?_
 revert H
 refine bd_ fun t451 A7 H => ?_
 revert H
 refine bd_ fun t454 A8 H => ?_
 have HC9 := ak H
 clear H
 go_enter Tryd.func6, Tryd.ntmps6
 go_upto_if 33 with (first | ((with_reducible refine gate_dst (N := 4) rfl ?_); refine bx_ 4 24 #[.int .i64 a0_0, .int .i64 a0_1, .int .u64 a0_2] ?_; intro gb444 hg w10 hbox hb; refine nx4_ (below_step (bU_ HB.out) hb) (hbox) ((hs_ hg (below_size (bU_ HB.out)))) ((hs_ hg (below_size (bU_ HB.out)))) ?_; clear HB; intro HB BK444 GW444 GE444; clear hb hbox hg; have hcz11_0 := bc0_ BK444.out; have hcz11_1 := bc1_ BK444.out; have hcz11_2 := bc2_ BK444.out; have hfz11_0 := blk_frozen BK444.out 0; have hfz11_1 := blk_frozen BK444.out 1; have hfz11_2 := blk_frozen BK444.out 2) | ((with_reducible refine gate_callee (f := 24) rfl ?_); refine gl_ (some 22) Tryd.func24 #[.agg #[.int .i64 a0_0, .int .i64 a0_1, .int .u64 a0_2]] ?_; (with_reducible refine (attestorlaw09_small.calls a0_0 a0_1 a0_2 t445 t446 t447 _ A5.out).mono ?_); rintro e w12 ⟨rfl, hb⟩; refine ⟨_, rfl, ?_⟩; refine nx2_ (blk_below (kU_ BK444.out) hb) (below_step sU_ hb) ?_; clear BK444 HB; intro BK444 HB; clear hb) | ((with_reducible refine gate_callee (f := 25) rfl ?_); refine gl_ (some 24) Tryd.func25 #[.slice A1 l1.length c1, .int .i64 70] ?_; (with_reducible refine (attestorlaw09_own.calls _ _ l1 70 t448 _ ?side1 ?side2 A6.out).mono ?_); (case side1 => exact cU_ (C_below HR1.out HB.out)); (case side2 => exact HC1.out); rintro e w13 ⟨v449, rfl, ho0, hb⟩; refine ⟨_, rfl, ?_⟩; refine nx3_ (R_lower ho0 (below_size sU_)) (blk_below (kU_ BK444.out) hb) (below_step sU_ hb) ?_; clear BK444 HB; intro HO450 BK444 HB; clear hb ho0) | ((with_reducible refine gate_callee (f := 25) rfl ?_); refine gl_ (some 26) Tryd.func25 #[.slice A2 l2.length c2, .int .i64 4] ?_; (with_reducible refine (attestorlaw09_own.calls _ _ l2 4 t451 _ ?side1 ?side2 A7.out).mono ?_); (case side1 => exact cU_ (C_below HR2.out HB.out)); (case side2 => exact HC2.out); rintro e w14 ⟨v452, rfl, ho0, hb⟩; refine ⟨_, rfl, ?_⟩; refine nx4_ (R_elder' (rU_ HO450.out) (R_base ho0) hb) (R_lower (R_new' ho0 (R_lt (rU_ HO450.out))) (below_size sU_)) (blk_below (kU_ BK444.out) hb) (below_step sU_ hb) ?_; clear HO450 BK444 HB; intro HO450 HO453 BK444 HB; clear hb ho0; have hcz15_0 := bc0_ BK444.out; have hcz15_1 := bc1_ BK444.out; have hcz15_2 := bc2_ BK444.out; have hfz15_0 := blk_frozen BK444.out 0; have hfz15_1 := blk_frozen BK444.out 1; have hfz15_2 := blk_frozen BK444.out 2; obtain ⟨Ao16, co16, eo16⟩ := R_slice HO450.out; subst eo16) | ((with_reducible refine gate_callee (f := 25) rfl ?_); refine gl_ (some 28) Tryd.func25 #[.slice Ao16 t448.length co16, .int .i64 70] ?_; (with_reducible refine (attestorlaw09_own.calls _ _ t448 70 t454 _ ?side1 ?side2 A8.out).mono ?_); (case side1 => refine (R_reads' (e := 22) (base := w.heap.size) (ok := fun k_ => (True ∧ some k_ ≠ (v452 : Value).ownBlock)) (n := t448.length) (c := co16) ?_).2.2; exact (by (with_reducible repeat (first | apply Kd.R_alloc | apply Kd.R_drewN | apply R_drew)); exact (R_mono (R_far (p := ⟨gb444, 2, none⟩) (R_far (p := ⟨gb444, 1, none⟩) (R_far (p := ⟨gb444, 0, none⟩) (R_types HO450.out BK444.out (by decide)) (fun _ hk => hk.2) (.int .i64 t445)) (fun _ hk => hk.2) (.int .i64 t446)) (fun _ hk => hk.2) (.int .u64 t447)) (fun _ h_ => h_.1)))); (case side2 => exact (R_reads' HO450.out).2.1); rintro e w17 ⟨v455, rfl, ho0, hb⟩; refine ⟨_, rfl, ?_⟩; refine nx5_ (R_elder' (by (with_reducible repeat (first | apply Kd.R_alloc | apply Kd.R_drewN | apply R_drew)); exact (R_mono (R_far (p := ⟨gb444, 2, none⟩) (R_far (p := ⟨gb444, 1, none⟩) (R_far (p := ⟨gb444, 0, none⟩) (R_types HO450.out BK444.out (by decide)) (fun _ hk => hk.2) (.int .i64 t445)) (fun _ hk => hk.2) (.int .i64 t446)) (fun _ hk => hk.2) (.int .u64 t447)) (fun _ h_ => h_.1))) (R_base ho0) hb) (R_elder' (by (with_reducible repeat (first | apply Kd.R_alloc | apply Kd.R_drewN | apply R_drew)); exact (R_mono (R_far (p := ⟨gb444, 2, none⟩) (R_far (p := ⟨gb444, 1, none⟩) (R_far (p := ⟨gb444, 0, none⟩) (R_types HO453.out BK444.out (by decide)) (fun _ hk => hk.2) (.int .i64 t445)) (fun _ hk => hk.2) (.int .i64 t446)) (fun _ hk => hk.2) (.int .u64 t447)) (fun _ h_ => h_.1))) (R_base ho0) hb) (R_lower (R_new' (R_new' ho0 (R_lt (by (with_reducible repeat (first | apply Kd.R_alloc | apply Kd.R_drewN | apply R_drew)); exact (R_mono (R_far (p := ⟨gb444, 2, none⟩) (R_far (p := ⟨gb444, 1, none⟩) (R_far (p := ⟨gb444, 0, none⟩) (R_types HO450.out BK444.out (by decide)) (fun _ hk => hk.2) (.int .i64 t445)) (fun _ hk => hk.2) (.int .i64 t446)) (fun _ hk => hk.2) (.int .u64 t447)) (fun _ h_ => h_.1))))) (R_lt (by (with_reducible repeat (first | apply Kd.R_alloc | apply Kd.R_drewN | apply R_drew)); exact (R_mono (R_far (p := ⟨gb444, 2, none⟩) (R_far (p := ⟨gb444, 1, none⟩) (R_far (p := ⟨gb444, 0, none⟩) (R_types HO453.out BK444.out (by decide)) (fun _ hk => hk.2) (.int .i64 t445)) (fun _ hk => hk.2) (.int .i64 t446)) (fun _ hk => hk.2) (.int .u64 t447)) (fun _ h_ => h_.1))))) (below_size sU_)) (blk_below (g := gb444) (o := .cells #[.int .i64 t445, .int .i64 t446, .int .u64 t447] 24 (0, 0)) kp_ hb) (below_step sU_ hb) ?_; clear HO450 HO453 BK444 HB; intro HO450 HO453 HO456 BK444 HB; clear hb ho0; obtain ⟨Ao18, co18, eo18⟩ := R_slice HO453.out; subst eo18))
 (try simp only [Act.put, s1_, s2_, s3_])
 go_cut [10] (fun v10 wc => ∃ (kq : Nat) (x10_8 : Int), v10 = .int .u64 x10_8 ∧ Aside0 (attestorlaw09_FoldWords.j0 kq t448 t451 a3 t454 x10_8 t445 t446 t447 = some r) ∧ Aside0 (kq ≤ k) ∧ Aside0 (Kd.R (Kd.int .u64) 22 wc w.heap.size (fun k_ => some k_ ≠ ((.slice Ao18 t451.length co18) : Value).ownBlock ∧ some k_ ≠ (v455 : Value).ownBlock) (.slice Ao16 t448.length co16) t448) ∧ Aside0 (Kd.R (Kd.int .u64) 22 wc w.heap.size (fun k_ => some k_ ≠ ((.slice Ao16 t448.length co16) : Value).ownBlock ∧ some k_ ≠ (v455 : Value).ownBlock) (.slice Ao18 t451.length co18) t451) ∧ Aside0 (Kd.R (Kd.int .u64) 22 wc w.heap.size (fun k_ => some k_ ≠ ((.slice Ao16 t448.length co16) : Value).ownBlock ∧ some k_ ≠ ((.slice Ao18 t451.length co18) : Value).ownBlock) v455 t454) ∧ Aside0 (wc.heap[gb444]? = some (.cells #[.int .i64 t445, .int .i64 t446, .int .u64 t447] 24 (0, 0))) ∧ Aside0 (Below w.heap.size w wc))
 case first =>
  have H := HC9.out
  clear HC9
  by_cases c19 : (t451.length : Int) > 0
  ·rw [if_pos c19] at H
   have c19b0 : decide (0 < (t451.length : Int)) = true := decide_eq_true c19
   have c19b1 : decide (0 < t451.length) = true := decide_eq_true (by omega)
   clear c19
   (first | rw [c19b0] | (simp only [i64_w, i32_w]; rw [c19b0]) | rw [c19b1] | skip)
   obtain ⟨c20, H⟩ : (0 < (t451.length : Int)) ∧ _ := it_ H
   have c20b0 := decide_eq_true c20
   have c20b1 : decide (0 < t451.length) = true := decide_eq_true (by omega)
   clear c20
   have H' := ak H
   clear H
   have pfr21 : 0 ≤ (0 : Int) := (by omega)
   have qfr21 : (0 : Int) < ((t451.length : Int) : Int) := od_
   obtain ⟨gofr21, cofr21, eofr21, gbfr21, glfr21, clfr21, HGfr21⟩ := Kd.R_form HO453.out (by omega)
   (first | cases eofr21 | (injection eofr21 with ea_ en_ ec_; (first | subst ea_ | (injection ea_ with ea_; subst ea_)); subst ec_; clear en_))
   have GBfr21 := ak gbfr21
   have GGfr21 := ak HGfr21
   clear gbfr21 glfr21 HGfr21
   clear pfr21 qfr21
   have p457 : 0 ≤ (0 : Int) := (by omega)
   have q457 : 0 < (t451.length : Int) := od_
   obtain ⟨ad457, e457, hx457_0⟩ := Kd.at_int (R_reads' HO453.out).2.2 0 p457 q457
   obtain rfl : (⟨gofr21, 0, none⟩ : Addr) = ad457 := (by injection e457)
   (first | simp only [add_plain] at hx457_0 | simp only [add_at] at hx457_0 | simp only [Addr.add, Nat.zero_add] at hx457_0 | skip)
   have qi457 : (0 < t451.length) = True := eq_true (by omega)
   (try rw [show ((0 : Int)).toNat = 0 from rfl] at hx457_0)
   (try rw [Addr.add_zero'] at hx457_0)
   replace p457 := eq_true p457
   replace q457 := eq_true q457
   go_wp2
   go_meet
   case rel => exact ⟨_, (rd t451 0), gb_, H', ⟨by first | omega | exact Nat.le_refl _⟩, ⟨R_mono (rU_ HO450.out) (fun _ hk => ⟨hk.1.2, hk.2⟩)⟩, ⟨R_mono (rU_ HO453.out) (fun _ hk => ⟨hk.1.2, hk.2⟩)⟩, ⟨R_mono (rU_ HO456.out) (fun _ hk => ⟨hk.1.2, hk.2⟩)⟩, ⟨by (with_reducible repeat (first | refine blk_drewN ?_ _ | refine blk_drew ?_ | refine blk_alloc ?_ _)); exact BK444.out⟩, ⟨sU_⟩⟩
  rw [if_neg c19] at H
  have c19b0 : decide (0 < (t451.length : Int)) = false := decide_eq_false c19
  have c19b1 : decide (0 < t451.length) = false := decide_eq_false (by omega)
  clear c19
  (first | rw [c19b0] | (simp only [i64_w, i32_w]; rw [c19b0]) | rw [c19b1] | skip)
  have H' := ak H
  clear H
  go_wp2
  go_meet
  case rel => exact ⟨_, (IntKind.u64.wrap (a3)), gb_, H', ⟨by first | omega | exact Nat.le_refl _⟩, ⟨R_mono (rU_ HO450.out) (fun _ hk => ⟨hk.1.2, hk.2⟩)⟩, ⟨R_mono (rU_ HO453.out) (fun _ hk => ⟨hk.1.2, hk.2⟩)⟩, ⟨R_mono (rU_ HO456.out) (fun _ hk => ⟨hk.1.2, hk.2⟩)⟩, ⟨by (with_reducible repeat (first | refine blk_drewN ?_ _ | refine blk_drew ?_ | refine blk_alloc ?_ _)); exact BK444.out⟩, ⟨sU_⟩⟩
 case rest =>
  clear HC9
  (try clear c1); (try clear c2); (try clear p2); (try clear p4); (try clear q4); (try clear hx4); (try clear qi4); (try clear c6); (try clear c19); (try clear c19b0); (try clear c19b1); (try clear c20); (try clear c20b0); (try clear c20b1); (try clear hcz11_0); (try clear hcz11_1); (try clear hcz11_2); (try clear hcz15_0); (try clear hcz15_1); (try clear hcz15_2); (try clear hfz11_0); (try clear hfz11_1); (try clear hfz11_2); (try clear hfz15_0); (try clear hfz15_1); (try clear hfz15_2); (try clear hx457_0); (try clear p457); (try clear q457)
  obtain ⟨kq, x10_8, rfl, HA, HJ8, HO_1, HO_2, HO_9, BK444, HB⟩ := hcut
  cases kq with
  | zero => exact absurd HA.out (by simp [attestorlaw09_FoldWords.j0])
  | succ kj8 =>
   have H := HA.out
   clear HA
   simp only [attestorlaw09_FoldWords.j0] at H
   revert H
   refine bd2_ fun t458 t461 A22 H => ?_
   try dsimp only at H
   revert H
   refine bd2_ fun t462 t465 A23 H => ?_
   try dsimp only at H
   revert H
   refine bd2_ fun t466 t469 A24 H => ?_
   try dsimp only at H
   revert H
   refine bd2_ fun t470 t473 A25 H => ?_
   try dsimp only at H
   revert H
   refine bd_ fun t474 A26 H => ?_
   revert H
   refine bd_ fun t475 A27 H => ?_
   obtain ⟨c28, H⟩ : ((((bco t474 0) == (bco t475 0) && ((bco t474 1) == (bco t475 1) && ((bco t474 2) == (bco t475 2) && ((bco t474 3) == (bco t475 3) && ((bco t474 4) == (bco t475 4) && ((bco t474 5) == (bco t475 5) && ((bco t474 6) == (bco t475 6) && ((bco t474 7) == (bco t475 7))))))))) = true)) ∧ _ := it_ H
   have c28b0 : ((bco t474 0) == (bco t475 0) && ((bco t474 1) == (bco t475 1) && ((bco t474 2) == (bco t475 2) && ((bco t474 3) == (bco t475 3) && ((bco t474 4) == (bco t475 4) && ((bco t474 5) == (bco t475 5) && ((bco t474 6) == (bco t475 6) && ((bco t474 7) == (bco t475 7))))))))) = true := c28
   (try (have c28b1 : decide ((bco t474 0) = (bco t475 0) && ((bco t474 1) == (bco t475 1) && ((bco t474 2) == (bco t475 2) && ((bco t474 3) == (bco t475 3) && ((bco t474 4) == (bco t475 4) && ((bco t474 5) == (bco t475 5) && ((bco t474 6) == (bco t475 6) && ((bco t474 7) == (bco t475 7))))))))) = true := by simpa using c28))
   (try (have c28b2 : ((bco t474 0) == (bco t475 0) && ((bco t474 1) == (bco t475 1) && ((bco t474 2) == (bco t475 2) && ((bco t474 3) == (bco t475 3) && ((bco t474 4) == (bco t475 4) && ((bco t474 5) == (bco t475 5) && ((bco t474 6) == (bco t475 6) && ((bco t474 7) == (bco t475 7))))))))) = true := by simpa using c28))
   clear c28
   obtain ⟨c29, H⟩ : (t461 = t465) ∧ _ := it_ H
   have c29b0 := beq_iff_eq.mpr c29
   have c29b1 := bne_eq_false_iff_eq.mpr c29
   clear c29
   revert H
   refine bd_ fun t476 A30 H => ?_
   by_cases c31 : t476 = true
   ·subst c31
    rw [if_pos rfl] at H
    obtain ⟨c32, H⟩ : (t469 = t473) ∧ _ := it_ H
    have c32b0 := beq_iff_eq.mpr c32
    have c32b1 := bne_eq_false_iff_eq.mpr c32
    clear c32
    revert H
    refine bd_ fun t477 A33 H => ?_
    have HC34 := ak H
    clear H
    have hcz35_0 := bc0_ BK444.out
    have hcz35_1 := bc1_ BK444.out
    have hcz35_2 := bc2_ BK444.out
    have hfz35_0 := blk_frozen BK444.out 0
    have hfz35_1 := blk_frozen BK444.out 1
    have hfz35_2 := blk_frozen BK444.out 2
    try go_wp2_with (first | ((with_reducible refine gate_callee (f := 20) rfl ?_); refine gl_ (some 41) Tryd.func20 #[.agg #[.int .i64 t445, .int .i64 t446, .int .u64 t447], .slice Ao16 t448.length co16, .int .u64 x10_8] ?_; (with_reducible refine (fold_Word.calls kj8 t445 t446 t447 _ _ t448 x10_8 t458 t461 _ ?side1 ?side2 ?side3 A22.out).mono ?_); (case side1 => repeat (first | with_reducible exact HG.out | with_reducible exact (Fld.below HG.out HB.out) | exact (Fld.below HG.out sU_) | (with_reducible refine Fld.alloc ?_ _) | (with_reducible refine Fld.drewN ?_ _) | (with_reducible refine Fld.drew ?_))); (case side2 => exact cU_ ((R_reads' HO_1.out).2.2)); (case side3 => exact (R_reads' HO_1.out).2.1); rintro e w36 ⟨v459, rfl, ho0, hb⟩; refine ⟨_, rfl, ?_⟩; refine nx6_ (R_elder' (rU_ HO_1.out) (R_base ho0) hb) (R_elder' (rU_ HO_2.out) (R_base ho0) hb) (R_elder' (rU_ HO_9.out) (R_base ho0) hb) (R_lower (R_new' (R_new' (R_new' ho0 (R_lt (rU_ HO_1.out))) (R_lt (rU_ HO_2.out))) (R_lt (rU_ HO_9.out))) (below_size sU_)) (blk_below (kU_ BK444.out) hb) (below_step sU_ hb) ?_; clear HO_1 HO_2 HO_9 BK444 HB; intro HO_1 HO_2 HO_9 HO460 BK444 HB; clear hb ho0; have hcz37_0 := bc0_ BK444.out; have hcz37_1 := bc1_ BK444.out; have hcz37_2 := bc2_ BK444.out; have hfz37_0 := blk_frozen BK444.out 0; have hfz37_1 := blk_frozen BK444.out 1; have hfz37_2 := blk_frozen BK444.out 2; obtain ⟨Ao38, co38, eo38⟩ := R_slice HO_9.out; subst eo38) | ((with_reducible refine gate_callee (f := 26) rfl ?_); refine gl_ (some 48) Tryd.func26 #[.agg #[.int .i64 t445, .int .i64 t446, .int .u64 t447], .slice Ao38 t454.length co38, .int .u64 x10_8] ?_; (with_reducible refine (attestorref09_Word.calls kj8 t445 t446 t447 _ _ t454 x10_8 t462 t465 _ ?side1 ?side2 A23.out).mono ?_); (case side1 => exact cU_ ((R_reads' HO_9.out).2.2)); (case side2 => exact (R_reads' HO_9.out).2.1); rintro e w39 ⟨v463, rfl, ho0, hb⟩; refine ⟨_, rfl, ?_⟩; refine nx7_ (R_elder' (rU_ HO_1.out) (R_base ho0) hb) (R_elder' (rU_ HO_2.out) (R_base ho0) hb) (R_elder' (rU_ HO_9.out) (R_base ho0) hb) (R_elder' (rU_ HO460.out) (R_base ho0) hb) (R_lower (R_new' (R_new' (R_new' (R_new' ho0 (R_lt (rU_ HO_1.out))) (R_lt (rU_ HO_2.out))) (R_lt (rU_ HO_9.out))) (R_lt (rU_ HO460.out))) (below_size sU_)) (blk_below (kU_ BK444.out) hb) (below_step sU_ hb) ?_; clear HO_1 HO_2 HO_9 HO460 BK444 HB; intro HO_1 HO_2 HO_9 HO460 HO464 BK444 HB; clear hb ho0; have hcz40_0 := bc0_ BK444.out; have hcz40_1 := bc1_ BK444.out; have hcz40_2 := bc2_ BK444.out; have hfz40_0 := blk_frozen BK444.out 0; have hfz40_1 := blk_frozen BK444.out 1; have hfz40_2 := blk_frozen BK444.out 2) | ((with_reducible refine gate_callee (f := 27) rfl ?_); refine gl_ (some 55) Tryd.func27 #[.agg #[.int .i64 t445, .int .i64 t446, .int .u64 t447], .slice Ao16 t448.length co16, .slice Ao18 t451.length co18] ?_; (with_reducible refine (fold_Words.calls kj8 t445 t446 t447 _ _ t448 _ _ t451 t466 t469 _ ?side1 ?side2 ?side3 ?side4 ?side5 A24.out).mono ?_); (case side1 => repeat (first | with_reducible exact HG.out | with_reducible exact (Fld.below HG.out HB.out) | exact (Fld.below HG.out sU_) | (with_reducible refine Fld.alloc ?_ _) | (with_reducible refine Fld.drewN ?_ _) | (with_reducible refine Fld.drew ?_))); (case side2 => exact cU_ ((R_reads' HO_1.out).2.2)); (case side3 => exact (R_reads' HO_1.out).2.1); (case side4 => exact cU_ ((R_reads' HO_2.out).2.2)); (case side5 => exact (R_reads' HO_2.out).2.1); rintro e w41 ⟨v467, rfl, ho0, hb⟩; refine ⟨_, rfl, ?_⟩; refine nx8_ (R_below (rU_ HO_1.out) hb) (R_below (rU_ HO_2.out) hb) (R_below (rU_ HO_9.out) hb) (R_below (rU_ HO460.out) hb) (R_below (rU_ HO464.out) hb) (Kd.S_lower (Kd.S_new' (Kd.S_new' (Kd.S_new' (Kd.S_new' (Kd.S_new' ho0 (R_lt (rU_ HO_1.out))) (R_lt (rU_ HO_2.out))) (R_lt (rU_ HO_9.out))) (R_lt (rU_ HO460.out))) (R_lt (rU_ HO464.out))) (below_size sU_)) (blk_below (kU_ BK444.out) hb) (below_step sU_ hb) ?_; clear HO_1 HO_2 HO_9 HO460 HO464 BK444 HB; intro HO_1 HO_2 HO_9 HO460 HO464 HO468 BK444 HB; clear hb ho0; have hcz42_0 := bc0_ BK444.out; have hcz42_1 := bc1_ BK444.out; have hcz42_2 := bc2_ BK444.out; have hfz42_0 := blk_frozen BK444.out 0; have hfz42_1 := blk_frozen BK444.out 1; have hfz42_2 := blk_frozen BK444.out 2) | ((with_reducible refine gate_callee (f := 28) rfl ?_); refine gl_ (some 62) Tryd.func28 #[.agg #[.int .i64 t445, .int .i64 t446, .int .u64 t447], .slice Ao38 t454.length co38, .slice Ao18 t451.length co18] ?_; (with_reducible refine (attestorref09_Words.calls kj8 t445 t446 t447 _ _ t454 _ _ t451 t470 t473 _ ?side1 ?side2 ?side3 ?side4 A25.out).mono ?_); (case side1 => exact cU_ ((R_reads' HO_9.out).2.2)); (case side2 => exact (R_reads' HO_9.out).2.1); (case side3 => exact cU_ ((R_reads' HO_2.out).2.2)); (case side4 => exact (R_reads' HO_2.out).2.1); rintro e w43 ⟨v471, rfl, ho0, hb⟩; refine ⟨_, rfl, ?_⟩; refine nx9_ (R_below (rU_ HO_1.out) hb) (R_below (rU_ HO_2.out) hb) (R_below (rU_ HO_9.out) hb) (R_below (rU_ HO460.out) hb) (R_below (rU_ HO464.out) hb) (Kd.S_below (by (with_reducible repeat (first | apply Kd.S_alloc | apply Kd.S_drewN | apply Kd.S_drew)); exact HO468.out) hb) (V_lower (V_mono (ok' := fun k_ => some k_ ≠ (.slice Ao16 t448.length co16 : Value).ownBlock ∧ some k_ ≠ (.slice Ao18 t451.length co18 : Value).ownBlock ∧ some k_ ≠ (.slice Ao38 t454.length co38 : Value).ownBlock ∧ some k_ ≠ (v459 : Value).ownBlock ∧ some k_ ≠ (v463 : Value).ownBlock ∧ some k_ ≠ (v467 : Value).ownBlock ∧ k_ ≠ gb444) ho0 (fun k_ hk_ => ⟨(fresh' (R_lt (rU_ HO_1.out)) k_ hk_), (fresh' (R_lt (rU_ HO_2.out)) k_ hk_), (fresh' (R_lt (rU_ HO_9.out)) k_ hk_), (fresh' (R_lt (rU_ HO460.out)) k_ hk_), (fresh' (R_lt (rU_ HO464.out)) k_ hk_), (fresh' (Kd.S_lt (by (with_reducible repeat (first | apply Kd.S_alloc | apply Kd.S_drewN | apply Kd.S_drew)); exact HO468.out)) k_ hk_), (freshB (kU_ BK444.out) k_ hk_)⟩)) (below_size sU_)) (blk_below (kU_ BK444.out) hb) (below_step sU_ hb) ?_; clear HO_1 HO_2 HO_9 HO460 HO464 HO468 BK444 HB; intro HO_1 HO_2 HO_9 HO460 HO464 HO468 HO472 BK444 HB; clear hb ho0))
    refine nx9_ (R_drew HO_1.out) (R_drew HO_2.out) (R_drew HO_9.out) (R_drew HO460.out) (R_drew HO464.out) (Kd.S_drew HO468.out) (V_drew HO472.out) (blk_drew BK444.out) (below_drew1 HB.out) ?_
    clear HO_1 HO_2 HO_9 HO460 HO464 HO468 HO472 BK444 HB
    intro HO_1 HO_2 HO_9 HO460 HO464 HO468 HO472 BK444 HB
    refine start_ (n := 31) (S := fun w' => w'.cell? ⟨gb444, 0, none⟩ = some (.int .i64 t445) ∧ w'.cell? ⟨gb444, 1, none⟩ = some (.int .i64 t446) ∧ w'.cell? ⟨gb444, 2, none⟩ = some (.int .u64 t447)) (ds := []) (bv 31 0) (by kernel_rfl) rfl rfl ⟨bc0_ BK444.out, bc1_ BK444.out, bc2_ BK444.out⟩ (fun hHeld => ?_); refine with_tabW attestorlaw09_FoldWords.tab10 attestorlaw09_FoldWords.bits10 (fun HT_ HW_ => ?_)
    generalize w43.drew = w44 at HO_1 HO_2 HO_9 HO460 HO464 HO468 HO472 BK444 HB hHeld ⊢
    refine pq_ 1 66 31 2 HT_.out ?_
    refine pq_ 2 67 31 6 HT_.out ?_
    refine pq_ 5 70 31 38 HT_.out ?_
    refine pq_ 6 71 31 102 HT_.out ?_
    refine tq_ 0 65 31 103 HT_.out HW_.out hHeld ?_
    refine tq_ 4 69 31 119 HT_.out HW_.out hHeld ?_
    refine oq_ 3 68 31 127 HT_.out fun K hK => ?_
    refine gs_ Tryd.func29 #[.agg #[.int .i64 t445, .int .i64 t446, .int .u64 t447], .slice Ao16 t448.length co16, .int .i64 a3] ?_
    with_reducible refine (fold_Leaf.calls kj8 t445 t446 t447 _ _ t448 a3 t474 _ ?side1 ?side2 ?side3 A26.out).mono ?_
    (case side1 => repeat (first | with_reducible exact HG.out | with_reducible exact (Fld.below HG.out HB.out) | exact (Fld.below HG.out sU_) | (with_reducible refine Fld.alloc ?_ _) | (with_reducible refine Fld.drewN ?_ _) | (with_reducible refine Fld.drew ?_)))
    (case side2 => exact cU_ ((R_reads' HO_1.out).2.2))
    (case side3 => exact (R_reads' HO_1.out).2.1)
    rintro e w45 ⟨rfl, hb⟩
    refine ⟨_, rfl, ?_⟩
    refine nx9_ (R_below (rU_ HO_1.out) hb) (R_below (rU_ HO_2.out) hb) (R_below (rU_ HO_9.out) hb) (R_below (rU_ HO460.out) hb) (R_below (rU_ HO464.out) hb) (Kd.S_below (by (with_reducible repeat (first | apply Kd.S_alloc | apply Kd.S_drewN | apply Kd.S_drew)); exact HO468.out) hb) (V_below (vU_ HO472.out) hb) (blk_below (kU_ BK444.out) hb) (below_step sU_ hb) ?_
    clear HO_1 HO_2 HO_9 HO460 HO464 HO468 HO472 BK444 HB
    intro HO_1 HO_2 HO_9 HO460 HO464 HO468 HO472 BK444 HB
    (try clear hb)
    (try clear hb2)
    (try clear hk)
    (try clear hi)
    refine hK.out _ _ ⟨bc0_ BK444.out, bc1_ BK444.out, bc2_ BK444.out⟩ (fun hHeld => ?_)
    clear hK K
    refine norm_ (a' := ?_) ?_ ?_
    rotate_left
    ·show Act.put _ (some 68) _ = _
     simp only [Act.put, s1_, s2_, s3_, i64_w, i32_w]
     rfl
    refine oq_ 7 72 31 255 HT_.out fun K hK => ?_
    refine gs_ Tryd.func30 #[.agg #[.int .i64 t445, .int .i64 t446, .int .u64 t447], .slice Ao38 t454.length co38, .int .i64 a3] ?_
    with_reducible refine (attestorref09_Leaf.calls kj8 t445 t446 t447 _ _ t454 a3 t475 _ ?side1 ?side2 A27.out).mono ?_
    (case side1 => exact cU_ ((R_reads' HO_9.out).2.2))
    (case side2 => exact (R_reads' HO_9.out).2.1)
    rintro e w46 ⟨rfl, hb⟩
    refine ⟨_, rfl, ?_⟩
    refine nx9_ (R_below (rU_ HO_1.out) hb) (R_below (rU_ HO_2.out) hb) (R_below (rU_ HO_9.out) hb) (R_below (rU_ HO460.out) hb) (R_below (rU_ HO464.out) hb) (Kd.S_below (by (with_reducible repeat (first | apply Kd.S_alloc | apply Kd.S_drewN | apply Kd.S_drew)); exact HO468.out) hb) (V_below (vU_ HO472.out) hb) (blk_below (kU_ BK444.out) hb) (below_step sU_ hb) ?_
    clear HO_1 HO_2 HO_9 HO460 HO464 HO468 HO472 BK444 HB
    intro HO_1 HO_2 HO_9 HO460 HO464 HO468 HO472 BK444 HB
    (try clear hb)
    (try clear hb2)
    (try clear hk)
    (try clear hi)
    obtain ⟨Ao47, co47, eo47⟩ := R_slice HO460.out
    (first | subst eo47 | (injection eo47 with f1_ f2_ f3_; have f4_ := f1_.symm; have f5_ := f3_.symm; clear f1_ f2_ f3_; subst f4_; subst f5_))
    obtain ⟨Ao48, co48, eo48⟩ := R_slice HO464.out
    (first | subst eo48 | (injection eo48 with f1_ f2_ f3_; have f4_ := f1_.symm; have f5_ := f3_.symm; clear f1_ f2_ f3_; subst f4_; subst f5_))
    refine hK.out _ _ ⟨bc0_ BK444.out, bc1_ BK444.out, bc2_ BK444.out⟩ (fun hHeld => ?_)
    clear hK K
    refine norm_ (a' := ?_) ?_ ?_
    rotate_left
    ·show Act.put _ (some 72) _ = _
     simp only [Act.put, s1_, s2_, s3_, i64_w, i32_w]
     rfl
    refine pq_ 8 73 31 511 HT_.out ?_
    refine pq_ 9 74 31 1023 HT_.out ?_
    refine pq_ 10 75 31 2047 HT_.out ?_
    refine pq_ 11 76 31 4095 HT_.out ?_
    refine pq_ 12 77 31 8191 HT_.out ?_
    refine pq_ 13 78 31 16383 HT_.out ?_
    refine pq_ 14 79 31 32767 HT_.out ?_
    refine pq_ 15 80 31 65535 HT_.out ?_
    refine pq_ 16 81 31 131071 HT_.out ?_
    refine oq_ 17 82 31 262143 HT_.out fun K hK => ?_
    refine gs_ Tryd.func31 #[.slice Ao47 t458.length co47, .slice Ao48 t462.length co48] ?_
    with_reducible refine (attestorref01_Same.calls kj8 _ _ t458 _ _ t462 true _ ?side1 ?side2 ?side3 ?side4 A30.out).mono ?_
    (case side1 => exact cU_ ((R_reads' HO460.out).2.2))
    (case side2 => exact (R_reads' HO460.out).2.1)
    (case side3 => exact cU_ ((R_reads' HO464.out).2.2))
    (case side4 => exact (R_reads' HO464.out).2.1)
    rintro e w' ⟨rfl, ⟨nd, rfl⟩⟩
    refine ⟨_, rfl, ?_⟩
    obtain ⟨Ao49, co49, eo49⟩ := Kd.S_slice HO468.out
    (first | subst eo49 | (injection eo49 with f1_ f2_ f3_; have f4_ := f1_.symm; have f5_ := f3_.symm; clear f1_ f2_ f3_; subst f4_; subst f5_))
    obtain ⟨Ao50, co50, eo50⟩ := V_slice HO472.out
    (first | subst eo50 | (injection eo50 with f1_ f2_ f3_; have f4_ := f1_.symm; have f5_ := f3_.symm; clear f1_ f2_ f3_; subst f4_; subst f5_))
    refine hK.out _ _ ⟨bc0_ BK444.out, bc1_ BK444.out, bc2_ BK444.out⟩ (fun hHeld => ?_)
    clear hK K
    refine norm_ (a' := ?_) ?_ ?_
    rotate_left
    ·show Act.put _ (some 82) _ = _
     simp only [Act.put, s1_, s2_, s3_, i64_w, i32_w]
     rfl
    refine pq_ 18 83 31 524287 HT_.out ?_
    refine pq_ 19 84 31 1048575 HT_.out ?_
    refine pq_ 20 85 31 2097151 HT_.out ?_
    refine pq_ 21 86 31 4194303 HT_.out ?_
    refine pq_ 22 87 31 8388607 HT_.out ?_
    refine pq_ 23 88 31 16777215 HT_.out ?_
    refine pq_ 24 89 31 33554431 HT_.out ?_
    refine pq_ 25 90 31 67108863 HT_.out ?_
    refine pq_ 26 91 31 134217727 HT_.out ?_
    refine pq_ 27 92 31 268435455 HT_.out ?_
    refine oq_ 28 93 31 536870911 HT_.out fun K hK => ?_
    refine gs_ Tryd.func32 #[.slice Ao49 t466.length co49, .slice Ao50 t470.length co50] ?_
    with_reducible refine (attestorref03_SameLists.calls kj8 _ _ t466 _ _ t470 t477 _ ?side1 ?side2 ?side3 ?side4 A33.out).mono ?_
    (case side1 => exact cU_ ((Kd.S_reads' HO468.out).2.2))
    (case side2 => exact (Kd.S_reads' HO468.out).2.1)
    (case side3 => exact cU_ ((V_reads' HO472.out).2.2))
    (case side4 => exact (V_reads' HO472.out).2.1)
    rintro e w' ⟨rfl, ⟨nd, rfl⟩⟩
    refine ⟨_, rfl, ?_⟩
    refine hK.out _ _ ⟨bc0_ BK444.out, bc1_ BK444.out, bc2_ BK444.out⟩ (fun hHeld => ?_)
    clear hK K
    refine norm_ (a' := ?_) ?_ ?_
    rotate_left
    ·show Act.put _ (some 93) _ = _
     simp only [Act.put, s1_, s2_, s3_, i64_w, i32_w]
     rfl
    refine pq_ 29 94 31 1073741823 HT_.out ?_
    refine pq_ 30 95 31 2147483647 HT_.out ?_
    refine done_ (done_of HT_.out (by kernel_rfl)) ?_
    go_upto_if 95 with (fail)
    go_cut [] (fun wc => ∃ (kq : Nat), Aside0 (attestorlaw09_FoldWords.j1 kq t448 t454 t466 = some r) ∧ Aside0 (kq ≤ kj8) ∧ Aside0 (Kd.R (Kd.int .u64) 22 wc w.heap.size (fun k_ => some k_ ≠ ((.slice Ao38 t454.length co38) : Value).ownBlock) (.slice Ao16 t448.length co16) t448) ∧ Aside0 (Kd.R (Kd.int .u64) 22 wc w.heap.size (fun k_ => some k_ ≠ ((.slice Ao16 t448.length co16) : Value).ownBlock) (.slice Ao38 t454.length co38) t454) ∧ Aside0 (Kd.S (Kd.slice 22 (Kd.int .u64)) 33 wc w.heap.size (fun k_ => some k_ ≠ ((.slice Ao16 t448.length co16) : Value).ownBlock ∧ some k_ ≠ ((.slice Ao38 t454.length co38) : Value).ownBlock) (.slice Ao49 t466.length co49) t466) ∧ Aside0 (wc.heap[gb444]? = some (.cells #[.int .i64 t445, .int .i64 t446, .int .u64 t447] 24 (0, 0))) ∧ Aside0 (Below w.heap.size w wc))
    case first =>
     have H := HC34.out
     clear HC34
     by_cases c51 : t477 = true
     ·subst c51
      rw [if_pos rfl] at H
      have H' := ak H
      clear H
      go_wp2
      go_meet
      case rel => exact ⟨_, H', ⟨by have := HJ8.out; first | omega | exact Nat.le_refl _⟩, ⟨R_mono (rU_ HO_1.out) (fun _ hk => hk.1.1.2)⟩, ⟨R_mono (rU_ HO_9.out) (fun _ hk => hk.1.1.1)⟩, ⟨by (with_reducible repeat (first | apply Kd.S_alloc | apply Kd.S_drewN | apply Kd.S_drew)); exact Kd.S_mono HO468.out (fun _ hk => ⟨hk.1.1.1.1.2, hk.1.1.2⟩)⟩, ⟨by (with_reducible repeat (first | refine blk_drewN ?_ _ | refine blk_drew ?_ | refine blk_alloc ?_ _)); exact BK444.out⟩, ⟨sU_⟩⟩
     replace c51 := Bool.eq_false_iff.mpr c51
     subst c51
     rw [if_neg (show ¬ (false = true) by decide)] at H
     exact absurd H (by simp)
    case rest =>
     clear HC34
     (try clear c1); (try clear c2); (try clear p2); (try clear c3); (try clear p4); (try clear q4); (try clear hx4); (try clear qi4); (try clear c5); (try clear c6); (try clear c19); (try clear c19b0); (try clear c19b1); (try clear c20); (try clear c20b0); (try clear c20b1); (try clear c24); (try clear c25); (try clear c26); (try clear c27); (try clear c28); (try clear c28b0); (try clear c28b1); (try clear c28b2); (try clear c29); (try clear c29b0); (try clear c29b1); (try clear c30); (try clear c31); (try clear c32); (try clear c32b0); (try clear c32b1); (try clear p45); (try clear q45); (try clear hx45); (try clear qi45); (try clear c51); (try clear hcz11_0); (try clear hcz11_1); (try clear hcz11_2); (try clear hcz15_0); (try clear hcz15_1); (try clear hcz15_2); (try clear hcz35_0); (try clear hcz35_1); (try clear hcz35_2); (try clear hcz37_0); (try clear hcz37_1); (try clear hcz37_2); (try clear hcz40_0); (try clear hcz40_1); (try clear hcz40_2); (try clear hcz42_0); (try clear hcz42_1); (try clear hcz42_2); (try clear hfz11_0); (try clear hfz11_1); (try clear hfz11_2); (try clear hfz15_0); (try clear hfz15_1); (try clear hfz15_2); (try clear hfz35_0); (try clear hfz35_1); (try clear hfz35_2); (try clear hfz37_0); (try clear hfz37_1); (try clear hfz37_2); (try clear hfz40_0); (try clear hfz40_1); (try clear hfz40_2); (try clear hfz42_0); (try clear hfz42_1); (try clear hfz42_2); (try clear hx457_0); (try clear p457); (try clear q457)
     obtain ⟨kq, HA, HJ33, HO_1, HO_9, HO_15, BK444, HB⟩ := hcut
     cases kq with
     | zero => exact absurd HA.out (by simp [attestorlaw09_FoldWords.j1])
     | succ kj33 =>
      have H := HA.out
      clear HA
      simp only [attestorlaw09_FoldWords.j1] at H
      have H' := ak H
      clear H
      go_wp2
      go_loopg [19] kj33 (fun kq v19 w' => ∃ (x1_3 : List Int) (x9_3 : List Int) (x15_3 : List (List Int)) (x19_3 : Int), v19 = .int .i64 x19_3 ∧ Aside0 (attestorlaw09_FoldWords.l0 kq x1_3 x9_3 x15_3 x19_3 = some r) ∧ Aside0 (kq ≤ kj33) ∧ Aside0 (Kd.R (Kd.int .u64) 22 w' w.heap.size (fun k_ => some k_ ≠ ((.slice Ao38 t454.length co38) : Value).ownBlock) (.slice Ao16 t448.length co16) x1_3) ∧ Aside0 (Kd.R (Kd.int .u64) 22 w' w.heap.size (fun k_ => some k_ ≠ ((.slice Ao16 t448.length co16) : Value).ownBlock) (.slice Ao38 t454.length co38) x9_3) ∧ Aside0 (Kd.S (Kd.slice 22 (Kd.int .u64)) 33 w' w.heap.size (fun k_ => some k_ ≠ ((.slice Ao16 t448.length co16) : Value).ownBlock ∧ some k_ ≠ ((.slice Ao38 t454.length co38) : Value).ownBlock) (.slice Ao49 t466.length co49) x15_3) ∧ Aside0 (w'.heap[gb444]? = some (.cells #[.int .i64 t445, .int .i64 t446, .int .u64 t447] 24 (0, 0))) ∧ Aside0 (Below w.heap.size w w'))
      case atStart => exact ⟨(t448), (t454), (t466), (0), gb_, H', ⟨Nat.le_refl _⟩, ⟨rU_ HO_1.out⟩, ⟨rU_ HO_9.out⟩, ⟨by (with_reducible repeat (first | apply Kd.S_alloc | apply Kd.S_drewN | apply Kd.S_drew)); exact HO_15.out⟩, ⟨by (with_reducible repeat (first | refine blk_drewN ?_ _ | refine blk_drew ?_ | refine blk_alloc ?_ _)); exact BK444.out⟩, ⟨sU_⟩⟩
      case round =>
       clear H'
       (try clear c1); (try clear c2); (try clear p2); (try clear c3); (try clear p4); (try clear q4); (try clear hx4); (try clear qi4); (try clear c5); (try clear c6); (try clear c19); (try clear c19b0); (try clear c19b1); (try clear c20); (try clear c20b0); (try clear c20b1); (try clear c24); (try clear c25); (try clear c26); (try clear c27); (try clear c28); (try clear c28b0); (try clear c28b1); (try clear c28b2); (try clear c29); (try clear c29b0); (try clear c29b1); (try clear c30); (try clear c31); (try clear c32); (try clear c32b0); (try clear c32b1); (try clear p45); (try clear q45); (try clear hx45); (try clear qi45); (try clear c51); (try clear hcz11_0); (try clear hcz11_1); (try clear hcz11_2); (try clear hcz15_0); (try clear hcz15_1); (try clear hcz15_2); (try clear hcz35_0); (try clear hcz35_1); (try clear hcz35_2); (try clear hcz37_0); (try clear hcz37_1); (try clear hcz37_2); (try clear hcz40_0); (try clear hcz40_1); (try clear hcz40_2); (try clear hcz42_0); (try clear hcz42_1); (try clear hcz42_2); (try clear hfz11_0); (try clear hfz11_1); (try clear hfz11_2); (try clear hfz15_0); (try clear hfz15_1); (try clear hfz15_2); (try clear hfz35_0); (try clear hfz35_1); (try clear hfz35_2); (try clear hfz37_0); (try clear hfz37_1); (try clear hfz37_2); (try clear hfz40_0); (try clear hfz40_1); (try clear hfz40_2); (try clear hfz42_0); (try clear hfz42_1); (try clear hfz42_2); (try clear hx457_0); (try clear p457); (try clear q457)
       obtain ⟨x1_3, x9_3, x15_3, x19_3, rfl, HA, HK3, HO_1, HO_9, HO_15, BK444, HB⟩ := hrel
       have hl1_3 := (R_reads' HO_1.out).1
       rw [hl1_3] at HO_1
       (try simp only [hl1_3])
       (try simp only [hl1_3] at BK444)
       (try simp only [hl1_3] at HO_9)
       (try simp only [hl1_3] at HO_15)
       have hl9_3 := (R_reads' HO_9.out).1
       rw [hl9_3] at HO_9
       (try simp only [hl9_3])
       (try simp only [hl9_3] at BK444)
       (try simp only [hl9_3] at HO_1)
       (try simp only [hl9_3] at HO_15)
       have hl15_3 := (Kd.S_reads' HO_15.out).1
       rw [hl15_3] at HO_15
       (try simp only [hl15_3])
       (try simp only [hl15_3] at BK444)
       (try simp only [hl15_3] at HO_1)
       (try simp only [hl15_3] at HO_9)
       cases gk with
       | zero => exact absurd HA.out (by simp [attestorlaw09_FoldWords.l0])
       | succ k3 =>
        have H := HA.out
        clear HA
        simp only [attestorlaw09_FoldWords.l0] at H
        have HC52 := ak H
        clear H
        go_upto_if 99 with (fail)
        go_cut [] (fun wc => ∃ (kq : Nat), Aside0 (attestorlaw09_FoldWords.j3 kq x1_3 x9_3 x15_3 x19_3 = some r) ∧ Aside0 (kq ≤ k3) ∧ Aside0 (Kd.R (Kd.int .u64) 22 wc w.heap.size (fun k_ => some k_ ≠ ((.slice Ao38 x9_3.length co38) : Value).ownBlock) (.slice Ao16 x1_3.length co16) x1_3) ∧ Aside0 (Kd.R (Kd.int .u64) 22 wc w.heap.size (fun k_ => some k_ ≠ ((.slice Ao16 x1_3.length co16) : Value).ownBlock) (.slice Ao38 x9_3.length co38) x9_3) ∧ Aside0 (Kd.S (Kd.slice 22 (Kd.int .u64)) 33 wc w.heap.size (fun k_ => some k_ ≠ ((.slice Ao16 x1_3.length co16) : Value).ownBlock ∧ some k_ ≠ ((.slice Ao38 x9_3.length co38) : Value).ownBlock) (.slice Ao49 x15_3.length co49) x15_3) ∧ Aside0 (wc.heap[gb444]? = some (.cells #[.int .i64 t445, .int .i64 t446, .int .u64 t447] 24 (0, 0))) ∧ Aside0 (Below w.heap.size w wc))
        case first =>
         have H := HC52.out
         clear HC52
         by_cases c53 : x19_3 < (x15_3.length : Int)
         ·rw [if_pos c53] at H
          have c53b0 := decide_eq_true c53
          clear c53
          (first | rw [c53b0] | (simp only [i64_w, i32_w]; rw [c53b0]) | rw [c53b1] | skip)
          have H' := ak H
          clear H
          go_wp2
          go_meet
          case rel => exact ⟨_, H', ⟨by have := HJ8.out; have := HJ33.out; have := HK3.out; first | omega | exact Nat.le_refl _⟩, ⟨by (try simp only [hl1_3]); (try simp only [hl9_3]); (try simp only [hl15_3]); (with_reducible repeat (first | apply Kd.R_alloc | apply Kd.R_drewN | apply R_drew)); exact HO_1.out⟩, ⟨by (try simp only [hl1_3]); (try simp only [hl9_3]); (try simp only [hl15_3]); (with_reducible repeat (first | apply Kd.R_alloc | apply Kd.R_drewN | apply R_drew)); exact HO_9.out⟩, ⟨by (try simp only [hl1_3]); (try simp only [hl9_3]); (try simp only [hl15_3]); (with_reducible repeat (first | apply Kd.S_alloc | apply Kd.S_drewN | apply Kd.S_drew)); exact HO_15.out⟩, ⟨by (try simp only [hl1_3]); (try simp only [hl9_3]); (try simp only [hl15_3]); (with_reducible repeat (first | refine blk_drewN ?_ _ | refine blk_drew ?_ | refine blk_alloc ?_ _)); exact BK444.out⟩, ⟨sU_⟩⟩
         rw [if_neg c53] at H
         have c53b0 := decide_eq_false c53
         clear c53
         (first | rw [c53b0] | (simp only [i64_w, i32_w]; rw [c53b0]) | rw [c53b1] | skip)
         revert H
         refine bd_ fun t478 A54 H => ?_
         by_cases c55 : t478 = true
         ·subst c55
          rw [if_pos rfl] at H
          revert H
          refine bd_ fun t479 A56 H => ?_
          obtain rfl := Option.some.inj H
          go_wp2_with (first | ((with_reducible refine gate_callee (f := 31) rfl ?_); refine gl_ (some 119) Tryd.func31 #[.slice Ao16 x1_3.length co16, .slice Ao38 x9_3.length co38] ?_; (with_reducible refine (attestorref01_Same.calls k3 _ _ x1_3 _ _ x9_3 true _ ?side1 ?side2 ?side3 ?side4 A54.out).mono ?_); (case side1 => exact cU_ ((R_reads' HO_1.out).2.2)); (case side2 => exact (R_reads' HO_1.out).2.1); (case side3 => exact cU_ ((R_reads' HO_9.out).2.2)); (case side4 => exact (R_reads' HO_9.out).2.1); rintro e w' ⟨rfl, ⟨nd, rfl⟩⟩; refine ⟨_, rfl, ?_⟩) | (go_at_call 16; (with_reducible refine (attestorlaw09_works.calls k3  t479 _ ?side1 A56.out).mono ?_); (case side1 => repeat (first | with_reducible exact HG.out | with_reducible exact (Fld.below HG.out HB.out) | exact (Fld.below HG.out sU_) | (with_reducible refine Fld.alloc ?_ _) | (with_reducible refine Fld.drewN ?_ _) | (with_reducible refine Fld.drew ?_))); rintro e w57 ⟨rfl, hb⟩; refine nx5_ (R_below (rU_ HO_1.out) hb) (R_below (rU_ HO_9.out) hb) (Kd.S_below (by (with_reducible repeat (first | apply Kd.S_alloc | apply Kd.S_drewN | apply Kd.S_drew)); exact HO_15.out) hb) (blk_below (kU_ BK444.out) hb) (below_step sU_ hb) ?_; clear HO_1 HO_9 HO_15 BK444 HB; intro HO_1 HO_9 HO_15 BK444 HB; clear hb))
          go_ret
          exact ⟨eW_, sU_⟩
         replace c55 := Bool.eq_false_iff.mpr c55
         subst c55
         rw [if_neg (show ¬ (false = true) by decide)] at H
         exact absurd H (by simp)
        case rest =>
         clear HC52
         (try clear c1); (try clear c2); (try clear p2); (try clear c3); (try clear p4); (try clear q4); (try clear hx4); (try clear qi4); (try clear c5); (try clear c6); (try clear c19); (try clear c19b0); (try clear c19b1); (try clear c20); (try clear c20b0); (try clear c20b1); (try clear c24); (try clear c25); (try clear c26); (try clear c27); (try clear c28); (try clear c28b0); (try clear c28b1); (try clear c28b2); (try clear c29); (try clear c29b0); (try clear c29b1); (try clear c30); (try clear c31); (try clear c32); (try clear c32b0); (try clear c32b1); (try clear p45); (try clear q45); (try clear hx45); (try clear qi45); (try clear c51); (try clear c53); (try clear c53b0); (try clear c53b1); (try clear c55); (try clear hcz11_0); (try clear hcz11_1); (try clear hcz11_2); (try clear hcz15_0); (try clear hcz15_1); (try clear hcz15_2); (try clear hcz35_0); (try clear hcz35_1); (try clear hcz35_2); (try clear hcz37_0); (try clear hcz37_1); (try clear hcz37_2); (try clear hcz40_0); (try clear hcz40_1); (try clear hcz40_2); (try clear hcz42_0); (try clear hcz42_1); (try clear hcz42_2); (try clear hfz11_0); (try clear hfz11_1); (try clear hfz11_2); (try clear hfz15_0); (try clear hfz15_1); (try clear hfz15_2); (try clear hfz35_0); (try clear hfz35_1); (try clear hfz35_2); (try clear hfz37_0); (try clear hfz37_1); (try clear hfz37_2); (try clear hfz40_0); (try clear hfz40_1); (try clear hfz40_2); (try clear hfz42_0); (try clear hfz42_1); (try clear hfz42_2); (try clear hx457_0); (try clear p457); (try clear q457)
         obtain ⟨kq, HA, HJ51, HO_1, HO_9, HO_15, BK444, HB⟩ := hcut
         cases kq with
         | zero => exact absurd HA.out (by simp [attestorlaw09_FoldWords.j3])
         | succ kj51 =>
          have H := HA.out
          clear HA
          simp only [attestorlaw09_FoldWords.j3] at H
          have H' := ak H
          clear H
          go_wp2
          go_loopg [20] kj51 (fun kq v20 w' => ∃ (x1_5 : List Int) (x9_5 : List Int) (x15_5 : List (List Int)) (x20_5 : Int), v20 = .int .i64 x20_5 ∧ Aside0 (attestorlaw09_FoldWords.l1 kq x1_5 x9_5 x15_5 x19_3 x20_5 = some r) ∧ Aside0 (kq ≤ kj51) ∧ Aside0 (Kd.R (Kd.int .u64) 22 w' w.heap.size (fun k_ => some k_ ≠ ((.slice Ao38 x9_3.length co38) : Value).ownBlock) (.slice Ao16 x1_3.length co16) x1_5) ∧ Aside0 (Kd.R (Kd.int .u64) 22 w' w.heap.size (fun k_ => some k_ ≠ ((.slice Ao16 x1_3.length co16) : Value).ownBlock) (.slice Ao38 x9_3.length co38) x9_5) ∧ Aside0 (Kd.S (Kd.slice 22 (Kd.int .u64)) 33 w' w.heap.size (fun k_ => some k_ ≠ ((.slice Ao16 x1_3.length co16) : Value).ownBlock ∧ some k_ ≠ ((.slice Ao38 x9_3.length co38) : Value).ownBlock) (.slice Ao49 x15_3.length co49) x15_5) ∧ Aside0 (w'.heap[gb444]? = some (.cells #[.int .i64 t445, .int .i64 t446, .int .u64 t447] 24 (0, 0))) ∧ Aside0 (Below w.heap.size w w'))
          case atStart => exact ⟨(x1_3), (x9_3), (x15_3), (0), gb_, H', ⟨Nat.le_refl _⟩, ⟨by (try simp only [hl1_3]); (try simp only [hl9_3]); (try simp only [hl15_3]); (with_reducible repeat (first | apply Kd.R_alloc | apply Kd.R_drewN | apply R_drew)); exact HO_1.out⟩, ⟨by (try simp only [hl1_3]); (try simp only [hl9_3]); (try simp only [hl15_3]); (with_reducible repeat (first | apply Kd.R_alloc | apply Kd.R_drewN | apply R_drew)); exact HO_9.out⟩, ⟨by (try simp only [hl1_3]); (try simp only [hl9_3]); (try simp only [hl15_3]); (with_reducible repeat (first | apply Kd.S_alloc | apply Kd.S_drewN | apply Kd.S_drew)); exact HO_15.out⟩, ⟨by (try simp only [hl1_3]); (try simp only [hl9_3]); (try simp only [hl15_3]); (with_reducible repeat (first | refine blk_drewN ?_ _ | refine blk_drew ?_ | refine blk_alloc ?_ _)); exact BK444.out⟩, ⟨sU_⟩⟩
          case round =>
           clear H'
           (try clear c1); (try clear c2); (try clear p2); (try clear c3); (try clear p4); (try clear q4); (try clear hx4); (try clear qi4); (try clear c5); (try clear c6); (try clear c19); (try clear c19b0); (try clear c19b1); (try clear c20); (try clear c20b0); (try clear c20b1); (try clear c24); (try clear c25); (try clear c26); (try clear c27); (try clear c28); (try clear c28b0); (try clear c28b1); (try clear c28b2); (try clear c29); (try clear c29b0); (try clear c29b1); (try clear c30); (try clear c31); (try clear c32); (try clear c32b0); (try clear c32b1); (try clear p45); (try clear q45); (try clear hx45); (try clear qi45); (try clear c51); (try clear c53); (try clear c53b0); (try clear c53b1); (try clear c55); (try clear hcz11_0); (try clear hcz11_1); (try clear hcz11_2); (try clear hcz15_0); (try clear hcz15_1); (try clear hcz15_2); (try clear hcz35_0); (try clear hcz35_1); (try clear hcz35_2); (try clear hcz37_0); (try clear hcz37_1); (try clear hcz37_2); (try clear hcz40_0); (try clear hcz40_1); (try clear hcz40_2); (try clear hcz42_0); (try clear hcz42_1); (try clear hcz42_2); (try clear hfz11_0); (try clear hfz11_1); (try clear hfz11_2); (try clear hfz15_0); (try clear hfz15_1); (try clear hfz15_2); (try clear hfz35_0); (try clear hfz35_1); (try clear hfz35_2); (try clear hfz37_0); (try clear hfz37_1); (try clear hfz37_2); (try clear hfz40_0); (try clear hfz40_1); (try clear hfz40_2); (try clear hfz42_0); (try clear hfz42_1); (try clear hfz42_2); (try clear hx457_0); (try clear p457); (try clear q457)
           obtain ⟨x1_5, x9_5, x15_5, x20_5, rfl, HA, HK5, HO_1, HO_9, HO_15, BK444, HB⟩ := hrel
           have hl1_5 := (R_reads' HO_1.out).1
           rw [hl1_5] at HO_1
           (try simp only [hl1_5])
           (try simp only [hl1_5] at BK444)
           (try simp only [hl1_5] at HO_9)
           (try simp only [hl1_5] at HO_15)
           have hl9_5 := (R_reads' HO_9.out).1
           rw [hl9_5] at HO_9
           (try simp only [hl9_5])
           (try simp only [hl9_5] at BK444)
           (try simp only [hl9_5] at HO_1)
           (try simp only [hl9_5] at HO_15)
           have hl15_5 := (Kd.S_reads' HO_15.out).1
           rw [hl15_5] at HO_15
           (try simp only [hl15_5])
           (try simp only [hl15_5] at BK444)
           (try simp only [hl15_5] at HO_1)
           (try simp only [hl15_5] at HO_9)
           cases gk with
           | zero => exact absurd HA.out (by simp [attestorlaw09_FoldWords.l1])
           | succ k5 =>
            have H := HA.out
            clear HA
            simp only [attestorlaw09_FoldWords.l1] at H
            obtain ⟨c58, H⟩ : (0 ≤ x19_3) ∧ _ := it_ H
            have c58b0 := decide_eq_true c58
            clear c58
            obtain ⟨c59, H⟩ : (x19_3 < (x15_5.length : Int)) ∧ _ := it_ H
            have c59b0 := decide_eq_true c59
            clear c59
            by_cases c60 : x20_5 < ((rd_L1 x15_5 x19_3).length : Int)
            ·rw [if_pos c60] at H
             have c60b0 := decide_eq_true c60
             clear c60
             obtain ⟨c61, H⟩ : (0 ≤ x20_5) ∧ _ := it_ H
             have c61b0 := decide_eq_true c61
             clear c61
             obtain ⟨y482, hy482⟩ : ∃ y_ : List Int, y_ = ((rd_L1 x15_5 x19_3).set (x20_5 : Int).toNat 5) := ⟨_, rfl⟩
             first | rw [Option.bind_some, ← hy482] at H | rw [← hy482] at H
             have Ny482 := ak hy482
             clear hy482
             obtain ⟨y484, hy484⟩ : ∃ y_ : List (List Int), y_ = (x15_5.set (x19_3 : Int).toNat y482) := ⟨_, rfl⟩
             replace H : (attestorlaw09_FoldWords.l1 k5 x1_5 x9_5 y484 x19_3 (wrap64 (x20_5 + 1))) = some r := by first | (rw [hy484]; with_reducible exact H) | (have H2_ := (Option.bind_some _ _).symm.trans H; rw [hy484]; with_reducible exact H2_) | (have H2_ := (Option.bind_some _ _).symm.trans H; with_reducible exact H2_) | with_reducible exact H | (rw [hy484]; exact H) | exact H
             have Ny484 := ak hy484
             clear hy484
             have H' := ak H
             clear H
             have p480 : 0 ≤ (x19_3 : Int) := od_
             have q480 : x19_3 < (x15_5.length : Int) := od_
             obtain ⟨ad480, A480_0, c480_0, e480, hx480_0, hl480_0, hi480_0⟩ := at_L1 (Kd.S_reads' HO_15.out).2.2 x19_3 p480 q480
             cases e480
             obtain ⟨ce480, hce480, hMe480, hcc480⟩ := Kd.S_get HO_15.out [] x19_3 p480 (by first | exact q480 | exact od_ | (have e_ := (Kd.S_reads' HO_15.out).1; omega))
             obtain ⟨ve480_0, rfl, ge480_0⟩ := hMe480
             have hv480_0 := hcc480 0 _ rfl
             rw [Nat.add_zero, show ((Kd.slice 22 (Kd.int .u64))).sz = 1 from rfl, Nat.mul_one] at hv480_0
             replace hv480_0 := Option.some.inj (hv480_0.symm.trans hx480_0)
             rw [hv480_0] at ge480_0
             have HL480_0 := ak (show Kd.R (Kd.int .u64) 22 _ _ _ _ (rd_L1 x15_5 x19_3) from ge480_0)
             clear hv480_0 ge480_0
             have HX480_0 := ak hx480_0
             clear hcc480 hce480
             have HR480_0 := ak hi480_0
             have HC480_0 := ak hl480_0
             clear hi480_0 hl480_0
             replace p480 := eq_true p480
             replace q480 := eq_true q480
             have p481 : 0 ≤ (x19_3 : Int) := od_
             have q481 : x19_3 < (x15_5.length : Int) := od_
             obtain ⟨ad481, A481_0, c481_0, e481, hx481_0, hl481_0, hi481_0⟩ := at_L1 (Kd.S_reads' HO_15.out).2.2 x19_3 p481 q481
             obtain rfl : ad480 = ad481 := (by injection e481)
             obtain ⟨ce481, hce481, hMe481, hcc481⟩ := Kd.S_get HO_15.out [] x19_3 p481 (by first | exact q481 | exact od_ | (have e_ := (Kd.S_reads' HO_15.out).1; omega))
             obtain ⟨ve481_0, rfl, ge481_0⟩ := hMe481
             have hv481_0 := hcc481 0 _ rfl
             rw [Nat.add_zero, show ((Kd.slice 22 (Kd.int .u64))).sz = 1 from rfl, Nat.mul_one] at hv481_0
             replace hv481_0 := Option.some.inj (hv481_0.symm.trans hx481_0)
             rw [hv481_0] at ge481_0
             have HL481_0 := ak (show Kd.R (Kd.int .u64) 22 _ _ _ _ (rd_L1 x15_5 x19_3) from ge481_0)
             clear hv481_0 ge481_0
             have HX481_0 := ak hx481_0
             clear hcc481 hce481
             have HR481_0 := ak hi481_0
             have HC481_0 := ak hl481_0
             clear hi481_0 hl481_0
             replace p481 := eq_true p481
             replace q481 := eq_true q481
             have ea_ := Option.some.inj (hx480_0.symm.trans hx481_0)
             injection ea_ with ea_ en_ ec_
             subst ea_
             subst ec_
             clear en_
             have p62 : 0 ≤ (x20_5 : Int) := od_
             have q62 : (x20_5 : Int) < (((rd_L1 x15_5 x19_3).length : Int) : Int) := od_
             obtain ⟨go62, co62, eo62, gb62, gl62, cl62, HG62⟩ := Kd.R_form HL481_0.out (by omega)
             (first | cases eo62 | (injection eo62 with ea_ en_ ec_; (first | subst ea_ | (injection ea_ with ea_; subst ea_)); subst ec_; clear en_))
             have GB62 := ak gb62
             have GG62 := ak HG62
             clear gb62 gl62 HG62
             obtain ⟨hx62_0, hf62_0⟩ := Kd.R_celln 0 HL481_0.out (x20_5 : Int) p62 q62
             replace p62 := eq_true p62
             replace q62 := eq_true q62
             have hq63 : (x19_3 : Int) < (x15_5.length : Int) := (by have h_ : (x19_3 : Int) < ((x15_5.length : Int) : Int) := od_; first | exact h_ | (have e_ := (Kd.S_reads' HO_15.out).1; omega) | simpa only [List.length_set, List.length_set] using h_)
             obtain ⟨oki63, ce63, hcl63, hM63, hcc63, hok63, hbk63⟩ := Kd.S_borrow HO_15.out [] (x19_3 : Int) od_ hq63
             obtain ⟨ve63_0, rfl, ge63_0⟩ := hM63
             have hv63 := hcc63 0 _ rfl
             rw [Nat.add_zero, show ((Kd.slice 22 (Kd.int .u64))).sz = 1 from rfl, Nat.mul_one] at hv63
             replace hv63 := Option.some.inj (hv63.symm.trans HX481_0.out)
             subst hv63
             clear hcc63 hcl63
             replace ge63_0 := (show Kd.R (Kd.int .u64) 22 _ _ _ _ (rd_L1 x15_5 x19_3) from ge63_0)
             have HP63 := Kd.R_putg ge63_0 (x20_5 : Int) 5
             go_wp2_with (first | ((with_reducible refine gate_store (t := 22) (p := 116) rfl ?_); refine store_event (t := 22) (p := 116) (v := ?vo_w64) (w1 := (wr.setCell ⟨go62, (x20_5 : Int).toNat, none⟩ (.int .u64 5))) ?hg ?ho ?hn ?hr ?_; (case ho => rfl); (case hg => rfl); (case hn => rfl); (case hr => first | (go_simp; done) | (go_simp; rfl)); intro w64 hw; have hg : wr.grownBy w64 (some go62) := (by rw [hw]; exact HP63.2); have hz_ : Kd.R (Kd.int .u64) 22 w64 w.heap.size oki63 (.slice (some ⟨go62, 0, none⟩) (rd_L1 x15_5 x19_3).length c480_0) y482 := (by rw [hw, Ny482.out]; exact HP63.1); have hp_ : Kd.S (Kd.slice 22 (Kd.int .u64)) 33 w64 w.heap.size (fun k_ => some k_ ≠ (.slice Ao16 x1_5.length co16 : Value).ownBlock ∧ some k_ ≠ (.slice Ao38 x9_5.length co38 : Value).ownBlock) (.slice (some ad480) x15_5.length co49) y484 := (by rw [Ny484.out]; exact hbk63 hg (fun k_ e_ => by injection e_ with e_; subst e_; exact ge63_0.1 _ rfl) (Kd.M_row hz_)); have hm_ := R_mono hz_ hok63; clear HP63 hbk63; refine nx7_ (Kd.R_grown1 (rU_ HO_1.out) rfl hg ((HL481_0.out.1 _ rfl).1.1)) (Kd.R_grown1 (rU_ HO_9.out) rfl hg ((HL481_0.out.1 _ rfl).1.2)) (hp_) (blk_grown (g := gb444) (o := .cells #[.int .i64 t445, .int .i64 t446, .int .u64 t447] 24 (0, 0)) (kU_ BK444.out) hg (Kd.R_ne HL481_0.out BK444.out (by decide))) ((by rw [hw]; exact below_set (HB.out) GB62.out : Below w.heap.size w w64)) (hm_) ((R_reads' hm_).2.1) ?_; clear HO_1 HO_9 HO_15 BK444 HB HL480_0 HL481_0; intro HO_1 HO_9 HO_15 BK444 HB HL485 HC483; clear hg hw hp_ hz_ hm_ hok63))
             (try simp only [← hl1_5, ← hl9_5, ← hl15_5])
             go_roundg k5
             case measure => have := HJ8.out; have := HJ33.out; have := HK3.out; have := HJ51.out; have := HK5.out; omega
             case rel => exact ⟨(x1_5), (x9_5), (y484), (wrap64 (x20_5 + 1)), gb_, H', ⟨by have := HJ8.out; have := HJ33.out; have := HK3.out; have := HJ51.out; have := HK5.out; omega⟩, ⟨by (try simp only [hl1_3]); (try simp only [hl9_3]); (try simp only [hl15_3]); (try simp only [hl1_5]); (try simp only [hl9_5]); (try simp only [hl15_5]); (with_reducible repeat (first | apply Kd.R_alloc | apply Kd.R_drewN | apply R_drew)); exact HO_1.out⟩, ⟨by (try simp only [hl1_3]); (try simp only [hl9_3]); (try simp only [hl15_3]); (try simp only [hl1_5]); (try simp only [hl9_5]); (try simp only [hl15_5]); (with_reducible repeat (first | apply Kd.R_alloc | apply Kd.R_drewN | apply R_drew)); exact HO_9.out⟩, ⟨by (try simp only [hl1_3]); (try simp only [hl9_3]); (try simp only [hl15_3]); (try simp only [hl1_5]); (try simp only [hl9_5]); (try simp only [hl15_5]); (with_reducible repeat (first | apply Kd.S_alloc | apply Kd.S_drewN | apply Kd.S_drew)); exact HO_15.out⟩, ⟨by (try simp only [hl1_3]); (try simp only [hl9_3]); (try simp only [hl15_3]); (try simp only [hl1_5]); (try simp only [hl9_5]); (try simp only [hl15_5]); (with_reducible repeat (first | refine blk_drewN ?_ _ | refine blk_drew ?_ | refine blk_alloc ?_ _)); exact BK444.out⟩, ⟨sU_⟩⟩
            rw [if_neg c60] at H
            have c60b0 := decide_eq_false c60
            clear c60
            have H' := ak H
            clear H
            have p480 : 0 ≤ (x19_3 : Int) := od_
            have q480 : x19_3 < (x15_5.length : Int) := od_
            obtain ⟨ad480, A480_0, c480_0, e480, hx480_0, hl480_0, hi480_0⟩ := at_L1 (Kd.S_reads' HO_15.out).2.2 x19_3 p480 q480
            cases e480
            obtain ⟨ce480, hce480, hMe480, hcc480⟩ := Kd.S_get HO_15.out [] x19_3 p480 (by first | exact q480 | exact od_ | (have e_ := (Kd.S_reads' HO_15.out).1; omega))
            obtain ⟨ve480_0, rfl, ge480_0⟩ := hMe480
            have hv480_0 := hcc480 0 _ rfl
            rw [Nat.add_zero, show ((Kd.slice 22 (Kd.int .u64))).sz = 1 from rfl, Nat.mul_one] at hv480_0
            replace hv480_0 := Option.some.inj (hv480_0.symm.trans hx480_0)
            rw [hv480_0] at ge480_0
            have HL480_0 := ak (show Kd.R (Kd.int .u64) 22 _ _ _ _ (rd_L1 x15_5 x19_3) from ge480_0)
            clear hv480_0 ge480_0
            have HX480_0 := ak hx480_0
            clear hcc480 hce480
            have HR480_0 := ak hi480_0
            have HC480_0 := ak hl480_0
            clear hi480_0 hl480_0
            replace p480 := eq_true p480
            replace q480 := eq_true q480
            go_wp2
            (try simp only [← hl1_3, ← hl9_3, ← hl15_3, ← hl1_5, ← hl9_5, ← hl15_5])
            go_roundg k5
            case measure => have := HJ8.out; have := HJ33.out; have := HK3.out; have := HJ51.out; have := HK5.out; omega
            case rel => exact ⟨(x1_5), (x9_5), (x15_5), (wrap64 (x19_3 + 1)), gb_, H', ⟨by have := HJ8.out; have := HJ33.out; have := HK3.out; have := HJ51.out; have := HK5.out; omega⟩, ⟨by (try simp only [hl1_3]); (try simp only [hl9_3]); (try simp only [hl15_3]); (try simp only [hl1_5]); (try simp only [hl9_5]); (try simp only [hl15_5]); (with_reducible repeat (first | apply Kd.R_alloc | apply Kd.R_drewN | apply R_drew)); exact HO_1.out⟩, ⟨by (try simp only [hl1_3]); (try simp only [hl9_3]); (try simp only [hl15_3]); (try simp only [hl1_5]); (try simp only [hl9_5]); (try simp only [hl15_5]); (with_reducible repeat (first | apply Kd.R_alloc | apply Kd.R_drewN | apply R_drew)); exact HO_9.out⟩, ⟨by (try simp only [hl1_3]); (try simp only [hl9_3]); (try simp only [hl15_3]); (try simp only [hl1_5]); (try simp only [hl9_5]); (try simp only [hl15_5]); (with_reducible repeat (first | apply Kd.S_alloc | apply Kd.S_drewN | apply Kd.S_drew)); exact HO_15.out⟩, ⟨by (try simp only [hl1_3]); (try simp only [hl9_3]); (try simp only [hl15_3]); (try simp only [hl1_5]); (try simp only [hl9_5]); (try simp only [hl15_5]); (with_reducible repeat (first | refine blk_drewN ?_ _ | refine blk_drew ?_ | refine blk_alloc ?_ _)); exact BK444.out⟩, ⟨sU_⟩⟩
   replace c31 := Bool.eq_false_iff.mpr c31
   subst c31
   rw [if_neg (show ¬ (false = true) by decide)] at H
   exact absurd H (by simp)

end Go.Proofs.YthinfmfjpaikiaaDoor.Q

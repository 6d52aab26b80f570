import Derived.Test.YtbjeemlbjkmhiaaDoorQ0
import Derived.Test.YtbjeemlbjkmhiaaDoorQ6
namespace Go.Proofs.YtbjeemlbjkmhiaaDoor.Q
open Go.RowKit Go.Proofs.YtbjeemlbjkmhiaaDoorW.PrintWords Go.Proofs.YtbjeemlbjkmhiaaDoorW.PrintLast Go.Proofs.YtbjeemlbjkmhiaaDoorW.PrintMore
open Kd (R_below R_mono R_far R_types R_lower R_new' R_newM R_elder' R_base R_lt R_slice R_reads' R_V R_lit R_make V_below V_mono V_far V_elderB V_reads' C_below R_drew V_drew R_at)
attribute [local go_sem] max2_int min2_int max_two min_two max_three min_three max_four min_four   -- for this text's walks alone
set_option linter.unusedVariables false
set_option linter.unusedSimpArgs false

mutual
def attestorref02_product.l0 : Nat → List Int → List Int → List Int → Int → Option (List Int)
 | 0, _, _, _, _ => none
 | k + 1, x0, x1, x5, x6 => if x6 < (x0.length : Int) then (attestorref02_product.l1 k x0 x1 x5 x6 0 0) else ((attestorref02_trim.f k x5).bind fun t521 => (some t521))
def attestorref02_product.l1 : Nat → List Int → List Int → List Int → Int → Int → Int → Option (List Int)
 | 0, _, _, _, _, _, _ => none
 | k + 1, x0, x1, x5, x6, x7, x8 => if x8 < (x1.length : Int) then (if 0 ≤ (wrap64 (x6 + x8)) then (if (wrap64 (x6 + x8)) < (x5.length : Int) then (if 0 ≤ x6 then (if x6 < (x0.length : Int) then (if 0 ≤ x8 then (attestorref02_product.l1 k x0 x1 (x5.set ((wrap64 (x6 + x8)) : Int).toNat ((Int.tmod (IntKind.u64.wrap ((IntKind.u64.wrap ((IntKind.u64.wrap (rd x5 (wrap64 (x6 + x8)))) + (IntKind.u64.wrap ((IntKind.u64.wrap (rd x0 x6)) * (IntKind.u64.wrap (rd x1 x8)))))) + x7)) 4294967296) % 4294967296)) x6 (IntKind.u64.wrap (Int.tdiv (IntKind.u64.wrap ((IntKind.u64.wrap ((IntKind.u64.wrap (rd x5 (wrap64 (x6 + x8)))) + (IntKind.u64.wrap ((IntKind.u64.wrap (rd x0 x6)) * (IntKind.u64.wrap (rd x1 x8)))))) + x7)) 4294967296)) (wrap64 (x8 + 1))) else (none)) else (none)) else (none)) else (none)) else (none)) else (if 0 ≤ (wrap64 (x6 + (x1.length : Int))) then (if (wrap64 (x6 + (x1.length : Int))) < (x5.length : Int) then (attestorref02_product.l0 k x0 x1 (x5.set ((wrap64 (x6 + (x1.length : Int))) : Int).toNat ((x7) % 4294967296)) (wrap64 (x6 + 1))) else (none)) else (none))
end
def attestorref02_product.f (k : Nat) (l0 : List Int) (l1 : List Int) : Option (List Int) := if 0 ≤ (wrap64 ((l0.length : Int) + (l1.length : Int))) then (if (wrap64 ((l0.length : Int) + (l1.length : Int)) : Int).toNat ≤ 70368744177664 then (attestorref02_product.l0 k l0 l1 (List.replicate (wrap64 ((l0.length : Int) + (l1.length : Int)) : Int).toNat 0) 0) else (none)) else (none)
set_option maxHeartbeats 8000000 in
set_option maxRecDepth 100000 in
theorem attestorref02_product.calls (k : Nat) (A0 : Option Addr) (c0 : Nat) (l0 : List Int) (A1 : Option Addr) (c1 : Nat) (l1 : List Int) (r : List Int) (w : World) (hr0 : Kd.C (Kd.int .u32) w A0 l0.length l0) (hc0 : l0.length ≤ c0) (hr1 : Kd.C (Kd.int .u32) w A1 l1.length l1) (hc1 : l1.length ≤ c1) (h : attestorref02_product.f k l0 l1 = some r) :
  Calls Tryd.prog 103 #[.slice A0 l0.length c0, .slice A1 l1.length c1] w fun e w' => ∃ v0_ : Value, e = .returned (v0_) ∧ Kd.R (Kd.int .u32) 115 w' w.heap.size (fun _ => True) v0_ r ∧ Below w.heap.size w w' := by
 have HR0 := ak hr0
 have HC0 := ak hc0
 clear hr0 hc0
 have HR1 := ak hr1
 have HC1 := ak hc1
 clear hr1 hc1
 have HB := ak (Below.refl w.heap.size w)
 have H := h
 clear h
 unfold attestorref02_product.f at H
 obtain ⟨ji3, hji3⟩ : ∃ j_ : Int, (wrap64 ((l0.length : Int) + (l1.length : Int))) = j_ := ⟨_, rfl⟩
 first | rw [hji3] at H | simp only [hji3] at H
 have hji3w : (IntKind.i64.wrap ((l0.length : Int) + (l1.length : Int))) = ji3 := (i64_w _).trans hji3
 obtain ⟨c4, H⟩ : (0 ≤ (ji3)) ∧ _ := it_ H
 have c4b0 := eq_true c4
 have c4b1 := decide_eq_true c4
 clear c4
 obtain ⟨c5, H⟩ : ((ji3 : Int).toNat ≤ 70368744177664) ∧ _ := it_ H
 have c5b0 := eq_true c5
 have c5b1 := decide_eq_true c5
 clear c5
 obtain ⟨y518, hy518⟩ : ∃ y_ : List Int, y_ = (List.replicate (ji3 : Int).toNat 0) := ⟨_, rfl⟩
 first | rw [Option.bind_some, ← hy518] at H | rw [← hy518] at H
 have Ny518 := ak hy518
 clear hy518
 have H' := ak H
 clear H
 go_enter Tryd.func103, Tryd.ntmps103
 go_wp2_with (first | ((with_reducible refine gate_dst (N := 15) rfl ?_); refine R_make (Kd.int .u32) _ 115 rfl (N := 15) rfl 23 _ _ rfl ji3 ?hx ?hy Tryd.underlying23 (.int .u32 0) 4 info115 rfl (by decide) (by omega) 0 (ok := fun _ => True) (okp := fun _ => True) rfl (fun _ hk => hk) trivial od_ (Nat.le_trans (Nat.mul_le_mul_right _ (od_ : ji3.toNat ≤ 70368744177664)) (by omega)) (Below.refl _ _) (Nat.le_refl _) ?_; (case hx => first | rfl | (simp only [hji3]; rfl)); (case hy => first | rfl | (simp only [hji3]; rfl)); intro v519 w6 ho7 hb hg_ hnew_; clear hg_ hnew_; (first | rw [← Ny518.out] at ho7 | (simp only [Int.reduceToNat] at ho7; rw [← Ny518.out] at ho7)); refine nx2_ (R_lower ho7 (below_size (bU_ HB.out))) (below_step (bU_ HB.out) hb) ?_; clear HB; intro HO520 HB; clear hb ho7))
 repeat (go_quiet (first | ((with_reducible refine gate_dst (N := 15) rfl ?_); refine R_make (Kd.int .u32) _ 115 rfl (N := 15) rfl 23 _ _ rfl ji3 ?hx ?hy Tryd.underlying23 (.int .u32 0) 4 info115 rfl (by decide) (by omega) 0 (ok := fun _ => True) (okp := fun _ => True) rfl (fun _ hk => hk) trivial od_ (Nat.le_trans (Nat.mul_le_mul_right _ (od_ : ji3.toNat ≤ 70368744177664)) (by omega)) (Below.refl _ _) (Nat.le_refl _) ?_; (case hx => first | rfl | (simp only [hji3]; rfl)); (case hy => first | rfl | (simp only [hji3]; rfl)); intro v519 w6 ho7 hb hg_ hnew_; clear hg_ hnew_; (first | rw [← Ny518.out] at ho7 | (simp only [Int.reduceToNat] at ho7; rw [← Ny518.out] at ho7)); refine nx2_ (R_lower ho7 (below_size (bU_ HB.out))) (below_step (bU_ HB.out) hb) ?_; clear HB; intro HO520 HB; clear hb ho7)); try go_wp2_with (first | ((with_reducible refine gate_dst (N := 15) rfl ?_); refine R_make (Kd.int .u32) _ 115 rfl (N := 15) rfl 23 _ _ rfl ji3 ?hx ?hy Tryd.underlying23 (.int .u32 0) 4 info115 rfl (by decide) (by omega) 0 (ok := fun _ => True) (okp := fun _ => True) rfl (fun _ hk => hk) trivial od_ (Nat.le_trans (Nat.mul_le_mul_right _ (od_ : ji3.toNat ≤ 70368744177664)) (by omega)) (Below.refl _ _) (Nat.le_refl _) ?_; (case hx => first | rfl | (simp only [hji3]; rfl)); (case hy => first | rfl | (simp only [hji3]; rfl)); intro v519 w6 ho7 hb hg_ hnew_; clear hg_ hnew_; (first | rw [← Ny518.out] at ho7 | (simp only [Int.reduceToNat] at ho7; rw [← Ny518.out] at ho7)); refine nx2_ (R_lower ho7 (below_size (bU_ HB.out))) (below_step (bU_ HB.out) hb) ?_; clear HB; intro HO520 HB; clear hb ho7)))
 go_loopg [6] k (fun kq v6 w' => ∃ (x5_1 : List Int) (x6_1 : Int), v6 = .int .i64 x6_1 ∧ Aside0 (attestorref02_product.l0 kq l0 l1 x5_1 x6_1 = some r) ∧ Aside0 (kq ≤ k) ∧ Aside0 (Kd.R (Kd.int .u32) 115 w' w.heap.size (fun _ => True) v519 x5_1) ∧ Aside0 (Below w.heap.size w w'))
 case atStart => exact ⟨(y518), (0), gb_, H', ⟨Nat.le_refl _⟩, ⟨rU_ HO520.out⟩, ⟨bU_ HB.out⟩⟩
 case round =>
  clear H'
  (try clear c1); (try clear p2); (try clear c4); (try clear c4b0); (try clear c4b1); (try clear c5); (try clear c5b0); (try clear c5b1); (try clear p6)
  obtain ⟨x5_1, x6_1, rfl, HA, HK1, HO_5, HB⟩ := hrel
  cases gk with
  | zero => exact absurd HA.out (by simp [attestorref02_product.l0])
  | succ k1 =>
   have H := HA.out
   clear HA
   simp only [attestorref02_product.l0] at H
   by_cases c8 : x6_1 < (l0.length : Int)
   ·rw [if_pos c8] at H
    have c8b0 := decide_eq_true c8
    clear c8
    have H' := ak H
    clear H
    go_wp2
    repeat (go_quiet (fail); try go_wp2)
    go_loopg [7, 8] k1 (fun kq v7 v8 w' => ∃ (x5_2 : List Int) (x7_2 : Int) (x8_2 : Int), v7 = .int .u64 x7_2 ∧ v8 = .int .i64 x8_2 ∧ Aside0 (attestorref02_product.l1 kq l0 l1 x5_2 x6_1 x7_2 x8_2 = some r) ∧ Aside0 (kq ≤ k1) ∧ Aside0 (Kd.R (Kd.int .u32) 115 w' w.heap.size (fun _ => True) v519 x5_2) ∧ Aside0 (Below w.heap.size w w'))
    case atStart => exact ⟨(x5_1), (0), (0), gb_, gb_, H', ⟨Nat.le_refl _⟩, ⟨rU_ HO_5.out⟩, ⟨bU_ HB.out⟩⟩
    case round =>
     clear H'
     (try clear c1); (try clear p2); (try clear c4); (try clear c4b0); (try clear c4b1); (try clear c5); (try clear c5b0); (try clear c5b1); (try clear p6); (try clear c8); (try clear c8b0)
     obtain ⟨x5_2, x7_2, x8_2, rfl, rfl, HA, HK2, HO_5, HB⟩ := hrel
     cases gk with
     | zero => exact absurd HA.out (by simp [attestorref02_product.l1])
     | succ k2 =>
      have H := HA.out
      clear HA
      simp only [attestorref02_product.l1] at H
      by_cases c9 : x8_2 < (l1.length : Int)
      ·rw [if_pos c9] at H
       have c9b0 := decide_eq_true c9
       clear c9
       obtain ⟨ji10, hji10⟩ : ∃ j_ : Int, (wrap64 (x6_1 + x8_2)) = j_ := ⟨_, rfl⟩
       first | rw [hji10] at H | simp only [hji10] at H
       have hji10w : (IntKind.i64.wrap (x6_1 + x8_2)) = ji10 := (i64_w _).trans hji10
       obtain ⟨c11, H⟩ : (0 ≤ (ji10)) ∧ _ := it_ H
       have c11b0 := decide_eq_true c11
       clear c11
       obtain ⟨c12, H⟩ : ((ji10) < (x5_2.length : Int)) ∧ _ := it_ H
       have c12b0 := decide_eq_true c12
       clear c12
       obtain ⟨c13, H⟩ : (0 ≤ x6_1) ∧ _ := it_ H
       have c13b0 := decide_eq_true c13
       clear c13
       obtain ⟨c14, H⟩ : (x6_1 < (l0.length : Int)) ∧ _ := it_ H
       have c14b0 := decide_eq_true c14
       clear c14
       obtain ⟨c15, H⟩ : (0 ≤ x8_2) ∧ _ := it_ H
       have c15b0 := decide_eq_true c15
       clear c15
       obtain ⟨y527, hy527⟩ : ∃ y_ : List Int, y_ = (x5_2.set ((ji10) : Int).toNat ((Int.tmod (IntKind.u64.wrap ((IntKind.u64.wrap ((IntKind.u64.wrap (rd x5_2 (ji10))) + (IntKind.u64.wrap ((IntKind.u64.wrap (rd l0 x6_1)) * (IntKind.u64.wrap (rd l1 x8_2)))))) + x7_2)) 4294967296) % 4294967296)) := ⟨_, rfl⟩
       first | rw [Option.bind_some, ← hy527] at H | rw [← hy527] at H
       have Ny527 := ak hy527
       clear hy527
       have H' := ak H
       clear H
       obtain ⟨Ao18, co18, eo18⟩ := R_slice HO_5.out
       subst eo18
       have pfr17 : 0 ≤ ((ji10) : Int) := od_
       have qfr17 : ((ji10) : Int) < ((x5_2.length : Int) : Int) := od_
       obtain ⟨gofr17, cofr17, eofr17, gbfr17, glfr17, clfr17, HGfr17⟩ := Kd.R_form HO_5.out (by omega)
       (first | cases eofr17 | (injection eofr17 with ea_ en_ ec_; (first | subst ea_ | (injection ea_ with ea_; subst ea_)); subst ec_; clear en_))
       have GBfr17 := ak gbfr17
       have GGfr17 := ak HGfr17
       clear gbfr17 glfr17 HGfr17
       clear pfr17 qfr17
       have p524 : 0 ≤ ((ji10) : Int) := od_
       have q524 : (ji10) < (x5_2.length : Int) := od_
       obtain ⟨ad524, e524, hx524_0⟩ := Kd.at_int (R_reads' HO_5.out).2.2 (ji10) p524 q524
       obtain rfl : (⟨gofr17, 0, none⟩ : Addr) = ad524 := (by injection e524)
       (first | simp only [add_plain] at hx524_0 | simp only [add_at] at hx524_0 | simp only [Addr.add, Nat.zero_add] at hx524_0 | skip)
       replace p524 := eq_true p524
       replace q524 := eq_true q524
       have p525 : 0 ≤ (x6_1 : Int) := od_
       have q525 : x6_1 < (l0.length : Int) := od_
       obtain ⟨ad525, e525, hx525_0⟩ := Kd.at_int HR0.out x6_1 p525 q525
       cases e525
       replace hx525_0 := (HB.out.cell (World.block_lt_of_cell? w _ hx525_0)).trans hx525_0
       replace p525 := eq_true p525
       replace q525 := eq_true q525
       have p526 : 0 ≤ (x8_2 : Int) := od_
       have q526 : x8_2 < (l1.length : Int) := od_
       obtain ⟨ad526, e526, hx526_0⟩ := Kd.at_int HR1.out x8_2 p526 q526
       cases e526
       replace hx526_0 := (HB.out.cell (World.block_lt_of_cell? w _ hx526_0)).trans hx526_0
       replace p526 := eq_true p526
       replace q526 := eq_true q526
       have p16 : 0 ≤ ((ji10) : Int) := od_
       have q16 : ((ji10) : Int) < ((x5_2.length : Int) : Int) := od_
       obtain ⟨hx16_0, hf16_0⟩ := Kd.R_celln 0 HO_5.out ((ji10) : Int) p16 q16
       replace p16 := eq_true p16
       replace q16 := eq_true q16
       have HP19 := Kd.R_putg HO_5.out ((ji10) : Int) ((Int.tmod (IntKind.u64.wrap ((IntKind.u64.wrap ((IntKind.u64.wrap (rd x5_2 (ji10))) + (IntKind.u64.wrap ((IntKind.u64.wrap (rd l0 x6_1)) * (IntKind.u64.wrap (rd l1 x8_2)))))) + x7_2)) 4294967296) % 4294967296)
       go_wp2_with (first | ((with_reducible refine gate_store (t := 115) (p := 56) rfl ?_); (try (rw [drewN_self wr]; generalize hq_ : World.drewN wr _ = wr; have n0_ := ak (R_at hq_ HO_5.out); have n1_ := ak (below_at hq_ HB.out); clear hq_ HO_5 HB; have HO_5 := n0_; have HB := n1_; clear n0_ n1_; (try (obtain ⟨hz16_0, hy16_0⟩ := Kd.R_celln 0 HO_5.out ((ji10) : Int) (of_eq_true p16) (of_eq_true q16))); (try (have HP19 := Kd.R_putg HO_5.out ((ji10) : Int) ((Int.tmod (IntKind.u64.wrap ((IntKind.u64.wrap ((IntKind.u64.wrap (rd x5_2 (ji10))) + (IntKind.u64.wrap ((IntKind.u64.wrap (rd l0 x6_1)) * (IntKind.u64.wrap (rd l1 x8_2)))))) + x7_2)) 4294967296) % 4294967296))))); refine store_event (t := 115) (p := 56) (v := ?vo_w20) (w1 := (wr.setCell ⟨gofr17, ((ji10) : Int).toNat, none⟩ (.int .u32 ((Int.tmod (IntKind.u64.wrap ((IntKind.u64.wrap ((IntKind.u64.wrap (rd x5_2 (ji10))) + (IntKind.u64.wrap ((IntKind.u64.wrap (rd l0 x6_1)) * (IntKind.u64.wrap (rd l1 x8_2)))))) + x7_2)) 4294967296) % 4294967296)))) ?hg ?ho ?hn ?hr ?_; (case ho => rfl); (case hg => rfl); (case hn => rfl); (case hr => first | (go_simp; done) | (go_simp; rfl)); intro w20 hw; have hg : wr.grownBy w20 (some gofr17) := (by rw [hw]; exact HP19.2); have hp_ : Kd.R (Kd.int .u32) 115 w20 w.heap.size (fun _ => True) (.slice (some ⟨gofr17, 0, none⟩) x5_2.length co18) y527 := (by rw [hw, Ny527.out]; exact HP19.1); clear HP19; refine nx2_ (hp_) ((by rw [hw]; exact below_set (HB.out) GBfr17.out : Below w.heap.size w w20)) ?_; clear HO_5 HB; intro HO_5 HB; clear hg hw hp_))
       repeat (go_quiet (first | ((with_reducible refine gate_store (t := 115) (p := 56) rfl ?_); (try (rw [drewN_self wr]; generalize hq_ : World.drewN wr _ = wr; have n0_ := ak (R_at hq_ HO_5.out); have n1_ := ak (below_at hq_ HB.out); clear hq_ HO_5 HB; have HO_5 := n0_; have HB := n1_; clear n0_ n1_; (try (obtain ⟨hz16_0, hy16_0⟩ := Kd.R_celln 0 HO_5.out ((ji10) : Int) (of_eq_true p16) (of_eq_true q16))); (try (have HP19 := Kd.R_putg HO_5.out ((ji10) : Int) ((Int.tmod (IntKind.u64.wrap ((IntKind.u64.wrap ((IntKind.u64.wrap (rd x5_2 (ji10))) + (IntKind.u64.wrap ((IntKind.u64.wrap (rd l0 x6_1)) * (IntKind.u64.wrap (rd l1 x8_2)))))) + x7_2)) 4294967296) % 4294967296))))); refine store_event (t := 115) (p := 56) (v := ?vo_w20) (w1 := (wr.setCell ⟨gofr17, ((ji10) : Int).toNat, none⟩ (.int .u32 ((Int.tmod (IntKind.u64.wrap ((IntKind.u64.wrap ((IntKind.u64.wrap (rd x5_2 (ji10))) + (IntKind.u64.wrap ((IntKind.u64.wrap (rd l0 x6_1)) * (IntKind.u64.wrap (rd l1 x8_2)))))) + x7_2)) 4294967296) % 4294967296)))) ?hg ?ho ?hn ?hr ?_; (case ho => rfl); (case hg => rfl); (case hn => rfl); (case hr => first | (go_simp; done) | (go_simp; rfl)); intro w20 hw; have hg : wr.grownBy w20 (some gofr17) := (by rw [hw]; exact HP19.2); have hp_ : Kd.R (Kd.int .u32) 115 w20 w.heap.size (fun _ => True) (.slice (some ⟨gofr17, 0, none⟩) x5_2.length co18) y527 := (by rw [hw, Ny527.out]; exact HP19.1); clear HP19; refine nx2_ (hp_) ((by rw [hw]; exact below_set (HB.out) GBfr17.out : Below w.heap.size w w20)) ?_; clear HO_5 HB; intro HO_5 HB; clear hg hw hp_)); try go_wp2_with (first | ((with_reducible refine gate_store (t := 115) (p := 56) rfl ?_); (try (rw [drewN_self wr]; generalize hq_ : World.drewN wr _ = wr; have n0_ := ak (R_at hq_ HO_5.out); have n1_ := ak (below_at hq_ HB.out); clear hq_ HO_5 HB; have HO_5 := n0_; have HB := n1_; clear n0_ n1_; (try (obtain ⟨hz16_0, hy16_0⟩ := Kd.R_celln 0 HO_5.out ((ji10) : Int) (of_eq_true p16) (of_eq_true q16))); (try (have HP19 := Kd.R_putg HO_5.out ((ji10) : Int) ((Int.tmod (IntKind.u64.wrap ((IntKind.u64.wrap ((IntKind.u64.wrap (rd x5_2 (ji10))) + (IntKind.u64.wrap ((IntKind.u64.wrap (rd l0 x6_1)) * (IntKind.u64.wrap (rd l1 x8_2)))))) + x7_2)) 4294967296) % 4294967296))))); refine store_event (t := 115) (p := 56) (v := ?vo_w20) (w1 := (wr.setCell ⟨gofr17, ((ji10) : Int).toNat, none⟩ (.int .u32 ((Int.tmod (IntKind.u64.wrap ((IntKind.u64.wrap ((IntKind.u64.wrap (rd x5_2 (ji10))) + (IntKind.u64.wrap ((IntKind.u64.wrap (rd l0 x6_1)) * (IntKind.u64.wrap (rd l1 x8_2)))))) + x7_2)) 4294967296) % 4294967296)))) ?hg ?ho ?hn ?hr ?_; (case ho => rfl); (case hg => rfl); (case hn => rfl); (case hr => first | (go_simp; done) | (go_simp; rfl)); intro w20 hw; have hg : wr.grownBy w20 (some gofr17) := (by rw [hw]; exact HP19.2); have hp_ : Kd.R (Kd.int .u32) 115 w20 w.heap.size (fun _ => True) (.slice (some ⟨gofr17, 0, none⟩) x5_2.length co18) y527 := (by rw [hw, Ny527.out]; exact HP19.1); clear HP19; refine nx2_ (hp_) ((by rw [hw]; exact below_set (HB.out) GBfr17.out : Below w.heap.size w w20)) ?_; clear HO_5 HB; intro HO_5 HB; clear hg hw hp_)))
       go_roundg k2
       case measure => have := HK1.out; have := HK2.out; omega
       case rel => exact ⟨(y527), (IntKind.u64.wrap (Int.tdiv (IntKind.u64.wrap ((IntKind.u64.wrap ((IntKind.u64.wrap (rd x5_2 (ji10))) + (IntKind.u64.wrap ((IntKind.u64.wrap (rd l0 x6_1)) * (IntKind.u64.wrap (rd l1 x8_2)))))) + x7_2)) 4294967296)), (wrap64 (x8_2 + 1)), (by first | rfl | (simp; done) | (simp only [← hji10] <;> (first | rfl | simp)) | (simp [*]; done)), gb_, H', ⟨by have := HK1.out; have := HK2.out; omega⟩, ⟨rU_ HO_5.out⟩, ⟨bU_ HB.out⟩⟩
      rw [if_neg c9] at H
      have c9b0 := decide_eq_false c9
      clear c9
      obtain ⟨ji21, hji21⟩ : ∃ j_ : Int, (wrap64 (x6_1 + (l1.length : Int))) = j_ := ⟨_, rfl⟩
      first | rw [hji21] at H | simp only [hji21] at H
      have hji21w : (IntKind.i64.wrap (x6_1 + (l1.length : Int))) = ji21 := (i64_w _).trans hji21
      obtain ⟨c22, H⟩ : (0 ≤ (ji21)) ∧ _ := it_ H
      have c22b0 := decide_eq_true c22
      clear c22
      obtain ⟨c23, H⟩ : ((ji21) < (x5_2.length : Int)) ∧ _ := it_ H
      have c23b0 := decide_eq_true c23
      clear c23
      obtain ⟨y528, hy528⟩ : ∃ y_ : List Int, y_ = (x5_2.set ((ji21) : Int).toNat ((x7_2) % 4294967296)) := ⟨_, rfl⟩
      first | rw [Option.bind_some, ← hy528] at H | rw [← hy528] at H
      have Ny528 := ak hy528
      clear hy528
      have H' := ak H
      clear H
      have p24 : 0 ≤ ((ji21) : Int) := od_
      have q24 : ((ji21) : Int) < ((x5_2.length : Int) : Int) := od_
      obtain ⟨go24, co24, eo24, gb24, gl24, cl24, HG24⟩ := Kd.R_form HO_5.out (by omega)
      (first | cases eo24 | (injection eo24 with ea_ en_ ec_; (first | subst ea_ | (injection ea_ with ea_; subst ea_)); subst ec_; clear en_))
      have GB24 := ak gb24
      have GG24 := ak HG24
      clear gb24 gl24 HG24
      obtain ⟨hx24_0, hf24_0⟩ := Kd.R_celln 0 HO_5.out ((ji21) : Int) p24 q24
      replace p24 := eq_true p24
      replace q24 := eq_true q24
      have HP25 := Kd.R_putg HO_5.out ((ji21) : Int) ((x7_2) % 4294967296)
      go_wp2_with (first | ((with_reducible refine gate_store (t := 115) (p := 66) rfl ?_); (try (rw [drewN_self wr]; generalize hq_ : World.drewN wr _ = wr; have n0_ := ak (R_at hq_ HO_5.out); have n1_ := ak (below_at hq_ HB.out); clear hq_ HO_5 HB; have HO_5 := n0_; have HB := n1_; clear n0_ n1_; (try (obtain ⟨hz24_0, hy24_0⟩ := Kd.R_celln 0 HO_5.out ((ji21) : Int) (of_eq_true p24) (of_eq_true q24))); (try (have HP25 := Kd.R_putg HO_5.out ((ji21) : Int) ((x7_2) % 4294967296))))); refine store_event (t := 115) (p := 66) (v := ?vo_w26) (w1 := (wr.setCell ⟨go24, ((ji21) : Int).toNat, none⟩ (.int .u32 ((x7_2) % 4294967296)))) ?hg ?ho ?hn ?hr ?_; (case ho => rfl); (case hg => rfl); (case hn => rfl); (case hr => first | (go_simp; done) | (go_simp; rfl)); intro w26 hw; have hg : wr.grownBy w26 (some go24) := (by rw [hw]; exact HP25.2); have hp_ : Kd.R (Kd.int .u32) 115 w26 w.heap.size (fun _ => True) (.slice (some ⟨go24, 0, none⟩) x5_2.length co24) y528 := (by rw [hw, Ny528.out]; exact HP25.1); clear HP25; refine nx2_ (hp_) ((by rw [hw]; exact below_set (HB.out) GB24.out : Below w.heap.size w w26)) ?_; clear HO_5 HB; intro HO_5 HB; clear hg hw hp_))
      repeat (go_quiet (first | ((with_reducible refine gate_store (t := 115) (p := 66) rfl ?_); (try (rw [drewN_self wr]; generalize hq_ : World.drewN wr _ = wr; have n0_ := ak (R_at hq_ HO_5.out); have n1_ := ak (below_at hq_ HB.out); clear hq_ HO_5 HB; have HO_5 := n0_; have HB := n1_; clear n0_ n1_; (try (obtain ⟨hz24_0, hy24_0⟩ := Kd.R_celln 0 HO_5.out ((ji21) : Int) (of_eq_true p24) (of_eq_true q24))); (try (have HP25 := Kd.R_putg HO_5.out ((ji21) : Int) ((x7_2) % 4294967296))))); refine store_event (t := 115) (p := 66) (v := ?vo_w26) (w1 := (wr.setCell ⟨go24, ((ji21) : Int).toNat, none⟩ (.int .u32 ((x7_2) % 4294967296)))) ?hg ?ho ?hn ?hr ?_; (case ho => rfl); (case hg => rfl); (case hn => rfl); (case hr => first | (go_simp; done) | (go_simp; rfl)); intro w26 hw; have hg : wr.grownBy w26 (some go24) := (by rw [hw]; exact HP25.2); have hp_ : Kd.R (Kd.int .u32) 115 w26 w.heap.size (fun _ => True) (.slice (some ⟨go24, 0, none⟩) x5_2.length co24) y528 := (by rw [hw, Ny528.out]; exact HP25.1); clear HP25; refine nx2_ (hp_) ((by rw [hw]; exact below_set (HB.out) GB24.out : Below w.heap.size w w26)) ?_; clear HO_5 HB; intro HO_5 HB; clear hg hw hp_)); try go_wp2_with (first | ((with_reducible refine gate_store (t := 115) (p := 66) rfl ?_); (try (rw [drewN_self wr]; generalize hq_ : World.drewN wr _ = wr; have n0_ := ak (R_at hq_ HO_5.out); have n1_ := ak (below_at hq_ HB.out); clear hq_ HO_5 HB; have HO_5 := n0_; have HB := n1_; clear n0_ n1_; (try (obtain ⟨hz24_0, hy24_0⟩ := Kd.R_celln 0 HO_5.out ((ji21) : Int) (of_eq_true p24) (of_eq_true q24))); (try (have HP25 := Kd.R_putg HO_5.out ((ji21) : Int) ((x7_2) % 4294967296))))); refine store_event (t := 115) (p := 66) (v := ?vo_w26) (w1 := (wr.setCell ⟨go24, ((ji21) : Int).toNat, none⟩ (.int .u32 ((x7_2) % 4294967296)))) ?hg ?ho ?hn ?hr ?_; (case ho => rfl); (case hg => rfl); (case hn => rfl); (case hr => first | (go_simp; done) | (go_simp; rfl)); intro w26 hw; have hg : wr.grownBy w26 (some go24) := (by rw [hw]; exact HP25.2); have hp_ : Kd.R (Kd.int .u32) 115 w26 w.heap.size (fun _ => True) (.slice (some ⟨go24, 0, none⟩) x5_2.length co24) y528 := (by rw [hw, Ny528.out]; exact HP25.1); clear HP25; refine nx2_ (hp_) ((by rw [hw]; exact below_set (HB.out) GB24.out : Below w.heap.size w w26)) ?_; clear HO_5 HB; intro HO_5 HB; clear hg hw hp_)))
      go_roundg k2
      case measure => have := HK1.out; have := HK2.out; omega
      case rel => exact ⟨(y528), (wrap64 (x6_1 + 1)), gb_, H', ⟨by have := HK1.out; have := HK2.out; omega⟩, ⟨rU_ HO_5.out⟩, ⟨bU_ HB.out⟩⟩
   rw [if_neg c8] at H
   have c8b0 := decide_eq_false c8
   clear c8
   revert H
   refine bd_ fun t521 A27 H => ?_
   obtain rfl := Option.some.inj H
   obtain ⟨Ao28, co28, eo28⟩ := R_slice HO_5.out
   subst eo28
   go_wp2_with (first | (go_at_call 126; (with_reducible refine (attestorref02_trim.calls k1 _ _ x5_1 t521 _ ?side1 ?side2 A27.out).mono ?_); (case side1 => exact cU_ ((R_reads' HO_5.out).2.2)); (case side2 => exact (R_reads' HO_5.out).2.1); rintro e w29 ⟨v522, rfl, ho0, hb⟩; refine nx3_ (R_elder' (rU_ HO_5.out) (R_base ho0) hb) (R_lower (R_new' ho0 (R_lt (rU_ HO_5.out))) (below_size (bU_ HB.out))) (below_step (bU_ HB.out) hb) ?_; clear HO_5 HB; intro HO_5 HO523 HB; clear hb ho0))
   repeat (go_quiet (first | (go_at_call 126; (with_reducible refine (attestorref02_trim.calls k1 _ _ x5_1 t521 _ ?side1 ?side2 A27.out).mono ?_); (case side1 => exact cU_ ((R_reads' HO_5.out).2.2)); (case side2 => exact (R_reads' HO_5.out).2.1); rintro e w29 ⟨v522, rfl, ho0, hb⟩; refine nx3_ (R_elder' (rU_ HO_5.out) (R_base ho0) hb) (R_lower (R_new' ho0 (R_lt (rU_ HO_5.out))) (below_size (bU_ HB.out))) (below_step (bU_ HB.out) hb) ?_; clear HO_5 HB; intro HO_5 HO523 HB; clear hb ho0)); try go_wp2_with (first | (go_at_call 126; (with_reducible refine (attestorref02_trim.calls k1 _ _ x5_1 t521 _ ?side1 ?side2 A27.out).mono ?_); (case side1 => exact cU_ ((R_reads' HO_5.out).2.2)); (case side2 => exact (R_reads' HO_5.out).2.1); rintro e w29 ⟨v522, rfl, ho0, hb⟩; refine nx3_ (R_elder' (rU_ HO_5.out) (R_base ho0) hb) (R_lower (R_new' ho0 (R_lt (rU_ HO_5.out))) (below_size (bU_ HB.out))) (below_step (bU_ HB.out) hb) ?_; clear HO_5 HB; intro HO_5 HO523 HB; clear hb ho0)))
   go_ret
   exact ⟨_, by first | rfl | (simp [errW_none, errW_some] <;> rfl) | (simp only [← hji3]; first | rfl | (simp [errW_none, errW_some] <;> rfl)) | (simp [*, errW_none, errW_some] <;> rfl), R_mono (rU_ HO523.out) (fun _ hk => trivial), bU_ HB.out⟩

mutual
def attestorref02_Power.j0 : Nat → Int → Bool → List Int → List Int → Option (List Int × List Int × Int)
 | 0, _, _, _, _ => none
 | k + 1, x1, x17, x530000, x530001 => if x17 = true then (some (([] : List Int), ([] : List Int), 2)) else (attestorref02_Power.l0 k x1 0 x530000 x530001 (([1] : List Int)) (([1] : List Int)))
def attestorref02_Power.l0 : Nat → Int → Int → List Int → List Int → List Int → List Int → Option (List Int × List Int × Int)
 | 0, _, _, _, _, _, _ => none
 | k + 1, x1, x7, x530000, x530001, x539000, x539001 => if x7 < x1 then ((attestorref02_product.f k x539000 x530000).bind fun t539 => ((attestorref02_product.f k x539001 x530001).bind fun t542 => (if (t539.length : Int) > 64 then (some (([] : List Int), ([] : List Int), 3)) else (if (t542.length : Int) > 64 then (some (([] : List Int), ([] : List Int), 3)) else (attestorref02_Power.l0 k x1 (wrap64 (x7 + 1)) x530000 x530001 t539 t542))))) else (some (x539000, x539001, 0))
end
def attestorref02_Power.f (k : Nat) (l0_0 : List Int) (l0_1 : List Int) (a1 : Int) : Option (List Int × List Int × Int) := (attestorref02_Valid.f k l0_0 l0_1).bind fun t531 => (if t531 = true then (if a1 < 0 then (attestorref02_Power.j0 k a1 true l0_0 l0_1) else (attestorref02_Power.j0 k a1 (decide (a1 > 1000)) l0_0 l0_1)) else (some (([] : List Int), ([] : List Int), 1)))
def attestorref02_Power.T9 : Bool × List (List Nat × List Nat) := (true, [([], []), ([0], [0]), ([], []), ([2], [2]), ([1, 3], [1, 3]), ([], []), ([5], [5]), ([], []), ([7], [7]), ([6, 8, 4], [6, 8]), ([4, 9], [4, 9]), ([10, 9, 0, 1, 2, 3, 4, 5, 6, 7, 8, 9, 10], [10])])
def attestorref02_Power.B9 : List Nat := [0, 1, 0, 4, 15, 0, 32, 0, 128, 511, 1023, 2047]
theorem attestorref02_Power.tab9 : rtab .any (opsOf Tryd.f55 9) = attestorref02_Power.T9 := by kernel_rfl
theorem attestorref02_Power.bits9 : waitsOk attestorref02_Power.T9.2 attestorref02_Power.B9 = true := by kernel_rfl
set_option maxHeartbeats 8000000 in
set_option maxRecDepth 100000 in
theorem attestorref02_Power.calls (k : Nat) (A0_0 : Option Addr) (c0_0 : Nat) (l0_0 : List Int) (A0_1 : Option Addr) (c0_1 : Nat) (l0_1 : List Int) (a1 : Int) (r1 : List Int) (r2 : List Int) (r3 : Int) (w : World) (hr0_0 : Kd.C (Kd.int .u32) w A0_0 l0_0.length l0_0) (hc0_0 : l0_0.length ≤ c0_0) (hr0_1 : Kd.C (Kd.int .u32) w A0_1 l0_1.length l0_1) (hc0_1 : l0_1.length ≤ c0_1) (h : attestorref02_Power.f k l0_0 l0_1 a1 = some (r1, r2, r3)) :
  Calls Tryd.prog 55 #[.agg #[.slice A0_0 l0_0.length c0_0, .slice A0_1 l0_1.length c0_1], .int .i64 a1] w fun e w' => ∃ v0_ v1_ : Value, e = .returned (.tuple #[.agg #[v0_, v1_], .int .i64 r3]) ∧ Kd.R (Kd.int .u32) 115 w' w.heap.size (fun k_ => some k_ ≠ (v1_ : Value).ownBlock) v0_ r1 ∧ Kd.R (Kd.int .u32) 115 w' w.heap.size (fun k_ => some k_ ≠ (v0_ : Value).ownBlock) v1_ r2 ∧ Below w.heap.size w w' := by
 have hu26 := Tryd.underlying26
 have HR0_0 := ak hr0_0
 have HC0_0 := ak hc0_0
 clear hr0_0 hc0_0
 have HR0_1 := ak hr0_1
 have HC0_1 := ak hc0_1
 clear hr0_1 hc0_1
 have HB := ak (Below.refl w.heap.size w)
 have H := h
 clear h
 unfold attestorref02_Power.f at H
 revert H
 refine bd_ fun t531 A3 H => ?_
 by_cases c4 : t531 = true
 ·subst c4
  rw [if_pos rfl] at H
  have HC5 := ak H
  clear H
  go_enter Tryd.func55, Tryd.ntmps55
  go_upto_region 3 with (first | ((with_reducible refine gate_dst (N := 2) rfl ?_); (try (refine gate_guard (by rfl) ?_; dsimp only)); refine bx_ 2 26 #[.slice A0_0 l0_0.length c0_0, .slice A0_1 l0_1.length c0_1] ?_; intro gb529 hg w6 hbox hb; refine nx4_ (below_step (bU_ HB.out) hb) (hbox) ((hs_ hg (below_size (bU_ HB.out)))) ((hs_ hg (below_size (bU_ HB.out)))) ?_; clear HB; intro HB BK529 GW529 GE529; clear hb hbox hg) | ((with_reducible refine gate_dst (N := 4) rfl ?_); (try (refine gate_guard (by rfl) ?_; dsimp only)); refine bx_ 4 26 #[.slice none 0 0, .slice none 0 0] ?_; intro gb530 hg w7 hbox hb; refine nx7_ (blk_below (kU_ BK529.out) hb) (below_step sU_ hb) (hbox) ((hs_ hg (below_size sU_) : w.heap.size ≤ gb530)) ((hs_ hg (below_size sU_) : w.heap.size ≤ gb530)) ((hl_ hg (kU_ BK529.out))) ((hm_ hg (kU_ BK529.out))) ?_; clear BK529 HB; intro BK529 HB BK530 GW530 GE530 NB529_530 NB530_529; clear hb hbox hg; have hnb8 := NB529_530.out; have hnc8 := NB530_529.out; have hcz9_0 := bc0_ BK529.out; have hcz9_1 := bc1_ BK529.out; have hfz9_0 := blk_frozen BK529.out 0; have hfz9_1 := blk_frozen BK529.out 1) | ((with_reducible refine gate_callee (f := 102) rfl ?_); refine gl_ (some 9) Tryd.func102 #[.agg #[.slice A0_0 l0_0.length c0_0, .slice A0_1 l0_1.length c0_1]] ?_; (with_reducible refine (attestorref02_Valid.calls k _ _ l0_0 _ _ l0_1 true _ ?side1 ?side2 ?side3 ?side4 A3.out).mono ?_); (case side1 => exact cU_ (C_below HR0_0.out HB.out)); (case side2 => exact HC0_0.out); (case side3 => exact cU_ (C_below HR0_1.out HB.out)); (case side4 => exact HC0_1.out); rintro e w10 ⟨rfl, hb⟩; refine ⟨_, rfl, ?_⟩; refine nx3_ (blk_below (kU_ BK529.out) hb) (blk_below (kU_ BK530.out) hb) (below_step sU_ hb) ?_; clear BK529 BK530 HB; intro BK529 BK530 HB; clear hb))
  (try simp only [Act.put, s1_, s2_, s3_])
  go_cut [17] (fun v17 wc => ∃ (kq : Nat) (x17_4 : Bool), v17 = .bool x17_4 ∧ Aside0 (attestorref02_Power.j0 kq a1 x17_4 l0_0 l0_1 = some (r1, r2, r3)) ∧ Aside0 (kq ≤ k) ∧ Aside0 (wc.heap[gb529]? = some (.cells #[(.slice A0_0 l0_0.length c0_0), (.slice A0_1 l0_1.length c0_1)] 26 (0, 0))) ∧ Aside0 (wc.heap[gb530]? = some (.cells #[(.slice none 0 0), (.slice none 0 0)] 26 (0, 0))) ∧ Aside0 (Below w.heap.size w wc))
  case first =>
   have H := HC5.out
   clear HC5
   by_cases c11 : a1 < 0
   ·rw [if_pos c11] at H
    have c11b0 := decide_eq_true c11
    clear c11
    (first | rw [c11b0] | (simp only [i64_w, i32_w]; rw [c11b0]) | rw [c11b1] | skip)
    have H' := ak H
    clear H
    go_wp2
    go_meet
    case rel => exact ⟨_, (true), gb_, H', ⟨by first | omega | exact Nat.le_refl _⟩, ⟨by (with_reducible repeat (first | refine blk_drewN ?_ _ | refine blk_drew ?_ | refine blk_alloc ?_ _)); exact BK529.out⟩, ⟨by (with_reducible repeat (first | refine blk_drewN ?_ _ | refine blk_drew ?_ | refine blk_alloc ?_ _)); exact BK530.out⟩, ⟨sU_⟩⟩
   rw [if_neg c11] at H
   have c11b0 := decide_eq_false c11
   clear c11
   (first | rw [c11b0] | (simp only [i64_w, i32_w]; rw [c11b0]) | rw [c11b1] | skip)
   have H' := ak H
   clear H
   go_wp2
   go_meet
   case rel => exact ⟨_, (decide (a1 > 1000)), gb_, H', ⟨by first | omega | exact Nat.le_refl _⟩, ⟨by (with_reducible repeat (first | refine blk_drewN ?_ _ | refine blk_drew ?_ | refine blk_alloc ?_ _)); exact BK529.out⟩, ⟨by (with_reducible repeat (first | refine blk_drewN ?_ _ | refine blk_drew ?_ | refine blk_alloc ?_ _)); exact BK530.out⟩, ⟨sU_⟩⟩
  case rest =>
   clear HC5
   (try clear c1); (try clear p2); (try clear c4); (try clear c5); (try clear c8); (try clear c10); (try clear c11); (try clear c11b0); (try clear c11b1); (try clear hcz9_0); (try clear hcz9_1); (try clear hfz9_0); (try clear hfz9_1)
   obtain ⟨kq, x17_4, rfl, HA, HJ4, BK529, BK530, HB⟩ := hcut
   cases kq with
   | zero => exact absurd HA.out (by simp [attestorref02_Power.j0])
   | succ kj4 =>
    have H := HA.out
    clear HA
    simp only [attestorref02_Power.j0] at H
    by_cases c12 : x17_4 = true
    ·subst c12
     rw [if_pos rfl] at H
     simp only [Option.some.injEq, Prod.mk.injEq] at H
     obtain ⟨rfl, rfl, rfl⟩ := H
     have hnb13 := NB530_529.out
     have hnc13 := NB529_530.out
     have hcz14_0 := bc0_ BK530.out
     have hcz14_1 := bc1_ BK530.out
     have hfz14_0 := blk_frozen BK530.out 0
     have hfz14_1 := blk_frozen BK530.out 1
     go_wp2
     refine bodyPost_ret (results_ct rfl _ _ gb530 26 #[.slice none 0 0, .slice none 0 0] (0, 0) _ rfl kp_ Tryd.underlying26 rfl (by kernel_rfl)) rfl ?_
     exact ⟨_, _, eW_, by first | exact Kd.R_nil _ _ _ _ _ | exact Kd.N_nil _ _ _ _ _ | exact Kd.V_nil _ _ _ _ _ | exact Kd.Q_nil _ _ _ _ _ | exact Kd.S_nil _ _ _ _ _, by first | exact Kd.R_nil _ _ _ _ _ | exact Kd.N_nil _ _ _ _ _ | exact Kd.V_nil _ _ _ _ _ | exact Kd.Q_nil _ _ _ _ _ | exact Kd.S_nil _ _ _ _ _, sU_⟩
    replace c12 := Bool.eq_false_iff.mpr c12
    subst c12
    rw [if_neg (show ¬ (false = true) by decide)] at H
    obtain ⟨y532, hy532⟩ : ∃ y_ : List Int, y_ = (([1] : List Int)) := ⟨_, rfl⟩
    replace H : (attestorref02_Power.l0 kj4 a1 0 l0_0 l0_1 y532 (([1] : List Int))) = some (r1, r2, r3) := by first | (rw [hy532]; with_reducible exact H) | (have H2_ := (Option.bind_some _ _).symm.trans H; rw [hy532]; with_reducible exact H2_) | (have H2_ := (Option.bind_some _ _).symm.trans H; with_reducible exact H2_) | with_reducible exact H | (rw [hy532]; exact H) | exact H
    have Ny532 := ak hy532
    clear hy532
    obtain ⟨y535, hy535⟩ : ∃ y_ : List Int, y_ = (([1] : List Int)) := ⟨_, rfl⟩
    replace H : (attestorref02_Power.l0 kj4 a1 0 l0_0 l0_1 y532 y535) = some (r1, r2, r3) := by first | (rw [hy535]; with_reducible exact H) | (have H2_ := (Option.bind_some _ _).symm.trans H; rw [hy535]; with_reducible exact H2_) | (have H2_ := (Option.bind_some _ _).symm.trans H; with_reducible exact H2_) | with_reducible exact H | (rw [hy535]; exact H) | exact H
    have Ny535 := ak hy535
    clear hy535
    have H' := ak H
    clear H
    go_wp2_with (first | ((with_reducible refine gate_dst (N := 19) rfl ?_); (try (refine gate_guard (by rfl) ?_; dsimp only)); refine R_lit (Kd.int .u32) _ 115 ?hg (N := 19) ?hd (xs := ([1] : List Int)) (inner := [.int .u32 1]) (ok := fun _ => True) (okp := fun _ => True) ?hr ?hp (fun _ hk => hk) trivial (Below.refl _ _) (Nat.le_refl _) (by simp) ?_; (case hd => rfl); (case hg => rfl); (case hr => first | (go_simp; done) | (go_simp; rfl)); (case hp => exact (Reps.one (show Kd.M (Kd.int .u32) _ _ _ 1 [.int .u32 1] from rfl) (Reps.none _ _))); intro v533 w15 ho16 hb hg_ hnew_; clear hg_ hnew_; (first | rw [← Ny532.out] at ho16 | (simp only [Int.reduceToNat] at ho16; rw [← Ny532.out] at ho16)); refine nx4_ (R_lower ho16 (below_size sU_)) (blk_below (kU_ BK529.out) hb) (blk_below (kU_ BK530.out) hb) (below_step sU_ hb) ?_; clear BK529 BK530 HB; intro HO534 BK529 BK530 HB; clear hb ho16) | ((with_reducible refine gate_dst (N := 20) rfl ?_); (try (refine gate_guard (by rfl) ?_; dsimp only)); refine R_lit (Kd.int .u32) _ 115 ?hg (N := 20) ?hd (xs := ([1] : List Int)) (inner := [.int .u32 1]) (ok := fun _ => True) (okp := fun _ => True) ?hr ?hp (fun _ hk => hk) trivial (Below.refl _ _) (Nat.le_refl _) (by simp) ?_; (case hd => rfl); (case hg => rfl); (case hr => first | (go_simp; done) | (go_simp; rfl)); (case hp => exact (Reps.one (show Kd.M (Kd.int .u32) _ _ _ 1 [.int .u32 1] from rfl) (Reps.none _ _))); intro v536 w17 ho18 hb hg_ hnew_; clear hg_ hnew_; (first | rw [← Ny535.out] at ho18 | (simp only [Int.reduceToNat] at ho18; rw [← Ny535.out] at ho18)); refine nx5_ (R_elder' (rU_ HO534.out) (R_base ho18) hb) (R_lower (R_new' ho18 (R_lt (rU_ HO534.out))) (below_size sU_)) (blk_below (kU_ BK529.out) hb) (blk_below (kU_ BK530.out) hb) (below_step sU_ hb) ?_; clear HO534 BK529 BK530 HB; intro HO534 HO537 BK529 BK530 HB; clear hb ho18; obtain ⟨Ao19, co19, eo19⟩ := R_slice HO537.out; subst eo19; obtain ⟨Ao20, co20, eo20⟩ := R_slice HO534.out; subst eo20) | ((with_reducible refine gate_dst (N := 6) rfl ?_); (try (refine gate_guard (by rfl) ?_; dsimp only)); refine bx_ 6 26 #[.slice none 0 0, .slice none 0 0] ?_; intro gb538 hg w21 hbox hb; refine nx12_ (R_below (rU_ HO534.out) hb) (R_below (rU_ HO537.out) hb) (blk_below (kU_ BK529.out) hb) (blk_below (kU_ BK530.out) hb) (below_step sU_ hb) (hbox) ((hs_ hg (below_size sU_) : w.heap.size ≤ gb538)) ((hs_ hg (below_size sU_) : w.heap.size ≤ gb538)) ((hl_ hg (kU_ BK529.out))) ((hm_ hg (kU_ BK529.out))) ((hl_ hg (kU_ BK530.out))) ((hm_ hg (kU_ BK530.out))) ?_; clear HO534 HO537 BK529 BK530 HB; intro HO534 HO537 BK529 BK530 HB BK538 GW538 GE538 NB529_538 NB538_529 NB530_538 NB538_530; clear hb hbox hg; have hnb22 := NB538_529.out; have hnc22 := NB529_538.out; have hnb23 := NB538_530.out; have hnc23 := NB530_538.out; have hcz24_0 := bc0_ BK538.out; have hcz24_1 := bc1_ BK538.out; have hfz24_0 := blk_frozen BK538.out 0; have hfz24_1 := blk_frozen BK538.out 1))
    go_loopg [7] kj4 (fun kq v7 w' => ∃ (x7_2 : Int) (x539000_2 : List Int) (x539001_2 : List Int) (u539000 : Value) (u539001 : Value), v7 = .int .i64 x7_2 ∧ Aside0 (attestorref02_Power.l0 kq a1 x7_2 l0_0 l0_1 x539000_2 x539001_2 = some (r1, r2, r3)) ∧ Aside0 (kq ≤ kj4) ∧ Aside0 (Kd.R (Kd.int .u32) 115 w' w.heap.size (fun k_ => some k_ ≠ (u539001 : Value).ownBlock) u539000 x539000_2) ∧ Aside0 (Kd.R (Kd.int .u32) 115 w' w.heap.size (fun k_ => some k_ ≠ (u539000 : Value).ownBlock) u539001 x539001_2) ∧ Aside0 (w'.heap[gb529]? = some (.cells #[(.slice A0_0 l0_0.length c0_0), (.slice A0_1 l0_1.length c0_1)] 26 (0, 0))) ∧ Aside0 (w'.heap[gb530]? = some (.cells #[(.slice none 0 0), (.slice none 0 0)] 26 (0, 0))) ∧ Aside0 (w'.heap[gb538]? = some (.cells #[u539000, u539001] 26 (0, 0))) ∧ Aside0 (Below w.heap.size w w'))
    case atStart => exact ⟨(0), (y532), (y535), (.slice Ao20 y532.length co20), (.slice Ao19 y535.length co19), gb_, H', ⟨Nat.le_refl _⟩, ⟨by (with_reducible repeat (first | apply Kd.R_alloc | apply Kd.R_drewN | apply R_drew)); exact R_mono (R_far (p := ⟨gb538, 1, none⟩) (R_far (p := ⟨gb538, 0, none⟩) (R_types HO534.out BK538.out (by decide)) (fun _ hk => hk.2) (.slice Ao20 y532.length co20)) (fun _ hk => hk.2) (.slice Ao19 y535.length co19)) (fun _ hk => hk.1.2)⟩, ⟨by (with_reducible repeat (first | apply Kd.R_alloc | apply Kd.R_drewN | apply R_drew)); exact R_mono (R_far (p := ⟨gb538, 1, none⟩) (R_far (p := ⟨gb538, 0, none⟩) (R_types HO537.out BK538.out (by decide)) (fun _ hk => hk.2) (.slice Ao20 y532.length co20)) (fun _ hk => hk.2) (.slice Ao19 y535.length co19)) (fun _ hk => hk.1.2)⟩, ⟨by (with_reducible repeat (first | refine blk_drewN ?_ _ | refine blk_drew ?_ | refine blk_alloc ?_ _)); refine blk_far ?_ NB529_538.out _; (with_reducible repeat (first | refine blk_drewN ?_ _ | refine blk_drew ?_ | refine blk_alloc ?_ _)); refine blk_far ?_ NB529_538.out _; (with_reducible repeat (first | refine blk_drewN ?_ _ | refine blk_drew ?_ | refine blk_alloc ?_ _)); exact BK529.out⟩, ⟨by (with_reducible repeat (first | refine blk_drewN ?_ _ | refine blk_drew ?_ | refine blk_alloc ?_ _)); refine blk_far ?_ NB530_538.out _; (with_reducible repeat (first | refine blk_drewN ?_ _ | refine blk_drew ?_ | refine blk_alloc ?_ _)); refine blk_far ?_ NB530_538.out _; (with_reducible repeat (first | refine blk_drewN ?_ _ | refine blk_drew ?_ | refine blk_alloc ?_ _)); exact BK530.out⟩, ⟨by (with_reducible repeat (first | refine blk_drewN ?_ _ | refine blk_drew ?_ | refine blk_alloc ?_ _)); refine blk_put (cs := #[.slice Ao20 y532.length co20, .slice none 0 0]) ?_ 1 _ rfl; (with_reducible repeat (first | refine blk_drewN ?_ _ | refine blk_drew ?_ | refine blk_alloc ?_ _)); refine blk_put (cs := #[.slice none 0 0, .slice none 0 0]) ?_ 0 _ rfl; (with_reducible repeat (first | refine blk_drewN ?_ _ | refine blk_drew ?_ | refine blk_alloc ?_ _)); exact BK538.out⟩, ⟨sU_⟩⟩
    case round =>
     clear H'
     (try clear c1); (try clear c2); (try clear p2); (try clear c4); (try clear c5); (try clear c8); (try clear c10); (try clear c11); (try clear c11b0); (try clear c11b1); (try clear c12); (try clear c13); (try clear c22); (try clear c23); (try clear hcz14_0); (try clear hcz14_1); (try clear hcz24_0); (try clear hcz24_1); (try clear hcz9_0); (try clear hcz9_1); (try clear hfz14_0); (try clear hfz14_1); (try clear hfz24_0); (try clear hfz24_1); (try clear hfz9_0); (try clear hfz9_1)
     obtain ⟨x7_2, x539000_2, x539001_2, u539000, u539001, rfl, HA, HK2, HO_539000, HO_539001, BK529, BK530, BK538, HB⟩ := hrel
     cases gk with
     | zero => exact absurd HA.out (by simp [attestorref02_Power.l0])
     | succ k2 =>
      have H := HA.out
      clear HA
      simp only [attestorref02_Power.l0] at H
      by_cases c25 : x7_2 < a1
      ·rw [if_pos c25] at H
       have c25b0 := decide_eq_true c25
       clear c25
       revert H
       refine bd_ fun t539 A26 H => ?_
       revert H
       refine bd_ fun t542 A27 H => ?_
       by_cases c28 : (t539.length : Int) > 64
       ·rw [if_pos c28] at H
        have c28b0 : decide (64 < (t539.length : Int)) = true := decide_eq_true c28
        have c28b1 : decide (64 < t539.length) = true := decide_eq_true (by omega)
        clear c28
        simp only [Option.some.injEq, Prod.mk.injEq] at H
        obtain ⟨rfl, rfl, rfl⟩ := H
        try go_wp2
        refine nx6_ (R_drew HO_539000.out) (R_drew HO_539001.out) (blk_drew BK529.out) (blk_drew BK530.out) (blk_drew BK538.out) (below_drew1 HB.out) ?_
        clear HO_539000 HO_539001 BK529 BK530 BK538 HB
        intro HO_539000 HO_539001 BK529 BK530 BK538 HB
        obtain ⟨Ao30, co30, eo30⟩ := R_slice HO_539000.out
        (first | subst eo30 | (injection eo30 with f1_ f2_ f3_; have f4_ := f1_.symm; have f5_ := f3_.symm; clear f1_ f2_ f3_; subst f4_; subst f5_))
        refine start_ (n := 12) (S := fun w' => w'.cell? ⟨gb538, 0, none⟩ = some (.slice Ao30 x539000_2.length co30) ∧ w'.cell? ⟨gb538, 1, none⟩ = some (u539001) ∧ w'.cell? ⟨gb529, 0, none⟩ = some (.slice A0_0 l0_0.length c0_0) ∧ w'.cell? ⟨gb529, 1, none⟩ = some (.slice A0_1 l0_1.length c0_1)) (ds := [11]) (bv 12 0) (by kernel_rfl) rfl rfl ⟨bc0_ BK538.out, bc1_ BK538.out, bc0_ BK529.out, bc1_ BK529.out⟩ (fun hHeld => ?_); refine with_tabW attestorref02_Power.tab9 attestorref02_Power.bits9 (fun HT_ HW_ => ?_)
        generalize wr.drew = w29 at HO_539000 HO_539001 BK529 BK530 BK538 HB hHeld ⊢
        refine pq_ 0 27 12 1 HT_.out ?_
        refine pq_ 2 29 12 5 HT_.out ?_
        refine pq_ 5 32 12 37 HT_.out ?_
        refine pq_ 7 34 12 165 HT_.out ?_
        refine tq_ 1 28 12 167 HT_.out HW_.out hHeld ?_
        refine tq_ 3 30 12 175 HT_.out HW_.out hHeld ?_
        refine tq_ 6 33 12 239 HT_.out HW_.out hHeld ?_
        refine tq_ 8 35 12 495 HT_.out HW_.out hHeld ?_
        refine oq_ 4 31 12 511 HT_.out fun K hK => ?_
        refine gs_ Tryd.func103 #[.slice Ao30 x539000_2.length co30, .slice A0_0 l0_0.length c0_0] ?_
        with_reducible refine (attestorref02_product.calls k2 _ _ x539000_2 _ _ l0_0 t539 _ ?side1 ?side2 ?side3 ?side4 A26.out).mono ?_
        (case side1 => exact cU_ ((R_reads' HO_539000.out).2.2))
        (case side2 => exact (R_reads' HO_539000.out).2.1)
        (case side3 => exact cU_ (C_below HR0_0.out HB.out))
        (case side4 => exact HC0_0.out)
        rintro e w31 ⟨v540, rfl, ho0, hb⟩
        refine ⟨_, rfl, ?_⟩
        refine nx7_ (R_elder' (rU_ HO_539000.out) (R_base ho0) hb) (R_elder' (rU_ HO_539001.out) (R_base ho0) hb) (R_lower (R_new' (R_new' ho0 (R_lt (rU_ HO_539000.out))) (R_lt (rU_ HO_539001.out))) (below_size sU_)) (blk_below (kU_ BK529.out) hb) (blk_below (kU_ BK530.out) hb) (blk_below (kU_ BK538.out) hb) (below_step sU_ hb) ?_
        clear HO_539000 HO_539001 BK529 BK530 BK538 HB
        intro HO_539000 HO_539001 HO541 BK529 BK530 BK538 HB
        (try clear hb)
        (try clear hb2)
        (try clear hk)
        (try clear hi)
        (try clear ho0)
        obtain ⟨Ao32, co32, eo32⟩ := R_slice HO_539001.out
        (first | subst eo32 | (injection eo32 with f1_ f2_ f3_; have f4_ := f1_.symm; have f5_ := f3_.symm; clear f1_ f2_ f3_; subst f4_; subst f5_))
        refine hK.out _ _ ⟨bc0_ BK538.out, bc1_ BK538.out, bc0_ BK529.out, bc1_ BK529.out⟩ (fun hHeld => ?_)
        clear hK K
        refine norm_ (a' := ?_) ?_ ?_
        rotate_left
        ·show Act.put _ (some 31) _ = _
         simp only [Act.put, s1_, s2_, s3_, i64_w, i32_w]
         rfl
        refine oq_ 9 36 12 1023 HT_.out fun K hK => ?_
        refine gs_ Tryd.func103 #[.slice Ao32 x539001_2.length co32, .slice A0_1 l0_1.length c0_1] ?_
        with_reducible refine (attestorref02_product.calls k2 _ _ x539001_2 _ _ l0_1 t542 _ ?side1 ?side2 ?side3 ?side4 A27.out).mono ?_
        (case side1 => exact cU_ ((R_reads' HO_539001.out).2.2))
        (case side2 => exact (R_reads' HO_539001.out).2.1)
        (case side3 => exact cU_ (C_below HR0_1.out HB.out))
        (case side4 => exact HC0_1.out)
        rintro e w33 ⟨v543, rfl, ho0, hb⟩
        refine ⟨_, rfl, ?_⟩
        refine nx8_ (R_elder' (rU_ HO_539000.out) (R_base ho0) hb) (R_elder' (rU_ HO_539001.out) (R_base ho0) hb) (R_elder' (rU_ HO541.out) (R_base ho0) hb) (R_lower (R_new' (R_new' (R_new' ho0 (R_lt (rU_ HO_539000.out))) (R_lt (rU_ HO_539001.out))) (R_lt (rU_ HO541.out))) (below_size sU_)) (blk_below (kU_ BK529.out) hb) (blk_below (kU_ BK530.out) hb) (blk_below (kU_ BK538.out) hb) (below_step sU_ hb) ?_
        clear HO_539000 HO_539001 HO541 BK529 BK530 BK538 HB
        intro HO_539000 HO_539001 HO541 HO544 BK529 BK530 BK538 HB
        (try clear hb)
        (try clear hb2)
        (try clear hk)
        (try clear hi)
        (try clear ho0)
        obtain ⟨Ao34, co34, eo34⟩ := R_slice HO544.out
        (first | subst eo34 | (injection eo34 with f1_ f2_ f3_; have f4_ := f1_.symm; have f5_ := f3_.symm; clear f1_ f2_ f3_; subst f4_; subst f5_))
        obtain ⟨Ao35, co35, eo35⟩ := R_slice HO541.out
        (first | subst eo35 | (injection eo35 with f1_ f2_ f3_; have f4_ := f1_.symm; have f5_ := f3_.symm; clear f1_ f2_ f3_; subst f4_; subst f5_))
        refine hK.out _ _ ⟨bc0_ BK538.out, bc1_ BK538.out, bc0_ BK529.out, bc1_ BK529.out⟩ (fun hHeld => ?_)
        clear hK K
        refine norm_ (a' := ?_) ?_ ?_
        rotate_left
        ·show Act.put _ (some 36) _ = _
         simp only [Act.put, s1_, s2_, s3_, i64_w, i32_w]
         rfl
        refine pq_ 10 37 12 2047 HT_.out ?_
        refine last_ (i := 11) (N := none) #[true, true, true, true, true, true, true, true, true, true, true, true] rfl rfl (one_of HT_.out (by kernel_rfl)) (by decide) (fun K hK => ?_)
        have hs36 : w33.cell? ⟨gb538, 0, none⟩ = some (.slice Ao30 x539000_2.length co30) := bc0_ BK538.out
        have hfs36 := blk_frozen BK538.out 0
        have hns36_0 := NB529_538.out
        have hns36_1 := NB530_538.out
        have hms36_0 := NB538_529.out
        have hms36_1 := NB538_530.out
        have hs37 : w33.cell? ⟨gb538, 1, none⟩ = some (.slice Ao32 x539001_2.length co32) := bc1_ BK538.out
        have hfs37 := blk_frozen BK538.out 1
        have hns37_0 := NB529_538.out
        have hns37_1 := NB530_538.out
        have hms37_0 := NB538_529.out
        have hms37_1 := NB538_530.out
        refine skip_ (w1 := ?_) (by rfl) rfl ?_ ?_
        rotate_left
        ·go_simp
         rfl
        refine hK.out _ _ ?_
        clear hK K
        refine done_ (done_of HT_.out (by kernel_rfl)) ?_
        have hnb38 := NB538_529.out
        have hnc38 := NB529_538.out
        have hnb39 := NB538_530.out
        have hnc39 := NB530_538.out
        have hcz40_0 := bc0_ BK538.out
        have hcz40_1 := bc1_ BK538.out
        have hfz40_0 := blk_frozen BK538.out 0
        have hfz40_1 := blk_frozen BK538.out 1
        have hnb41 := NB530_529.out
        have hnc41 := NB529_530.out
        have hcz42_0 := bc0_ BK530.out
        have hcz42_1 := bc1_ BK530.out
        have hfz42_0 := blk_frozen BK530.out 0
        have hfz42_1 := blk_frozen BK530.out 1
        try go_wp2
        refine bodyPost_ret (results_ct rfl _ _ gb530 26 #[.slice none 0 0, .slice none 0 0] (0, 0) _ rfl kp_ Tryd.underlying26 rfl (by kernel_rfl)) rfl ?_
        exact ⟨_, _, eW_, by first | exact Kd.R_nil _ _ _ _ _ | exact Kd.N_nil _ _ _ _ _ | exact Kd.V_nil _ _ _ _ _ | exact Kd.Q_nil _ _ _ _ _ | exact Kd.S_nil _ _ _ _ _, by first | exact Kd.R_nil _ _ _ _ _ | exact Kd.N_nil _ _ _ _ _ | exact Kd.V_nil _ _ _ _ _ | exact Kd.Q_nil _ _ _ _ _ | exact Kd.S_nil _ _ _ _ _, sU_⟩
       rw [if_neg c28] at H
       have c28b0 : decide (64 < (t539.length : Int)) = false := decide_eq_false c28
       have c28b1 : decide (64 < t539.length) = false := decide_eq_false (by omega)
       clear c28
       by_cases c43 : (t542.length : Int) > 64
       ·rw [if_pos c43] at H
        have c43b0 : decide (64 < (t542.length : Int)) = true := decide_eq_true c43
        have c43b1 : decide (64 < t542.length) = true := decide_eq_true (by omega)
        clear c43
        simp only [Option.some.injEq, Prod.mk.injEq] at H
        obtain ⟨rfl, rfl, rfl⟩ := H
        try go_wp2
        refine nx6_ (R_drew HO_539000.out) (R_drew HO_539001.out) (blk_drew BK529.out) (blk_drew BK530.out) (blk_drew BK538.out) (below_drew1 HB.out) ?_
        clear HO_539000 HO_539001 BK529 BK530 BK538 HB
        intro HO_539000 HO_539001 BK529 BK530 BK538 HB
        obtain ⟨Ao45, co45, eo45⟩ := R_slice HO_539000.out
        (first | subst eo45 | (injection eo45 with f1_ f2_ f3_; have f4_ := f1_.symm; have f5_ := f3_.symm; clear f1_ f2_ f3_; subst f4_; subst f5_))
        refine start_ (n := 12) (S := fun w' => w'.cell? ⟨gb538, 0, none⟩ = some (.slice Ao45 x539000_2.length co45) ∧ w'.cell? ⟨gb538, 1, none⟩ = some (u539001) ∧ w'.cell? ⟨gb529, 0, none⟩ = some (.slice A0_0 l0_0.length c0_0) ∧ w'.cell? ⟨gb529, 1, none⟩ = some (.slice A0_1 l0_1.length c0_1)) (ds := [11]) (bv 12 0) (by kernel_rfl) rfl rfl ⟨bc0_ BK538.out, bc1_ BK538.out, bc0_ BK529.out, bc1_ BK529.out⟩ (fun hHeld => ?_); refine with_tabW attestorref02_Power.tab9 attestorref02_Power.bits9 (fun HT_ HW_ => ?_)
        generalize wr.drew = w44 at HO_539000 HO_539001 BK529 BK530 BK538 HB hHeld ⊢
        refine pq_ 0 27 12 1 HT_.out ?_
        refine pq_ 2 29 12 5 HT_.out ?_
        refine pq_ 5 32 12 37 HT_.out ?_
        refine pq_ 7 34 12 165 HT_.out ?_
        refine tq_ 1 28 12 167 HT_.out HW_.out hHeld ?_
        refine tq_ 3 30 12 175 HT_.out HW_.out hHeld ?_
        refine tq_ 6 33 12 239 HT_.out HW_.out hHeld ?_
        refine tq_ 8 35 12 495 HT_.out HW_.out hHeld ?_
        refine oq_ 4 31 12 511 HT_.out fun K hK => ?_
        refine gs_ Tryd.func103 #[.slice Ao45 x539000_2.length co45, .slice A0_0 l0_0.length c0_0] ?_
        with_reducible refine (attestorref02_product.calls k2 _ _ x539000_2 _ _ l0_0 t539 _ ?side1 ?side2 ?side3 ?side4 A26.out).mono ?_
        (case side1 => exact cU_ ((R_reads' HO_539000.out).2.2))
        (case side2 => exact (R_reads' HO_539000.out).2.1)
        (case side3 => exact cU_ (C_below HR0_0.out HB.out))
        (case side4 => exact HC0_0.out)
        rintro e w46 ⟨v540, rfl, ho0, hb⟩
        refine ⟨_, rfl, ?_⟩
        refine nx7_ (R_elder' (rU_ HO_539000.out) (R_base ho0) hb) (R_elder' (rU_ HO_539001.out) (R_base ho0) hb) (R_lower (R_new' (R_new' ho0 (R_lt (rU_ HO_539000.out))) (R_lt (rU_ HO_539001.out))) (below_size sU_)) (blk_below (kU_ BK529.out) hb) (blk_below (kU_ BK530.out) hb) (blk_below (kU_ BK538.out) hb) (below_step sU_ hb) ?_
        clear HO_539000 HO_539001 BK529 BK530 BK538 HB
        intro HO_539000 HO_539001 HO541 BK529 BK530 BK538 HB
        (try clear hb)
        (try clear hb2)
        (try clear hk)
        (try clear hi)
        (try clear ho0)
        obtain ⟨Ao47, co47, eo47⟩ := R_slice HO_539001.out
        (first | subst eo47 | (injection eo47 with f1_ f2_ f3_; have f4_ := f1_.symm; have f5_ := f3_.symm; clear f1_ f2_ f3_; subst f4_; subst f5_))
        refine hK.out _ _ ⟨bc0_ BK538.out, bc1_ BK538.out, bc0_ BK529.out, bc1_ BK529.out⟩ (fun hHeld => ?_)
        clear hK K
        refine norm_ (a' := ?_) ?_ ?_
        rotate_left
        ·show Act.put _ (some 31) _ = _
         simp only [Act.put, s1_, s2_, s3_, i64_w, i32_w]
         rfl
        refine oq_ 9 36 12 1023 HT_.out fun K hK => ?_
        refine gs_ Tryd.func103 #[.slice Ao47 x539001_2.length co47, .slice A0_1 l0_1.length c0_1] ?_
        with_reducible refine (attestorref02_product.calls k2 _ _ x539001_2 _ _ l0_1 t542 _ ?side1 ?side2 ?side3 ?side4 A27.out).mono ?_
        (case side1 => exact cU_ ((R_reads' HO_539001.out).2.2))
        (case side2 => exact (R_reads' HO_539001.out).2.1)
        (case side3 => exact cU_ (C_below HR0_1.out HB.out))
        (case side4 => exact HC0_1.out)
        rintro e w48 ⟨v543, rfl, ho0, hb⟩
        refine ⟨_, rfl, ?_⟩
        refine nx8_ (R_elder' (rU_ HO_539000.out) (R_base ho0) hb) (R_elder' (rU_ HO_539001.out) (R_base ho0) hb) (R_elder' (rU_ HO541.out) (R_base ho0) hb) (R_lower (R_new' (R_new' (R_new' ho0 (R_lt (rU_ HO_539000.out))) (R_lt (rU_ HO_539001.out))) (R_lt (rU_ HO541.out))) (below_size sU_)) (blk_below (kU_ BK529.out) hb) (blk_below (kU_ BK530.out) hb) (blk_below (kU_ BK538.out) hb) (below_step sU_ hb) ?_
        clear HO_539000 HO_539001 HO541 BK529 BK530 BK538 HB
        intro HO_539000 HO_539001 HO541 HO544 BK529 BK530 BK538 HB
        (try clear hb)
        (try clear hb2)
        (try clear hk)
        (try clear hi)
        (try clear ho0)
        obtain ⟨Ao49, co49, eo49⟩ := R_slice HO544.out
        (first | subst eo49 | (injection eo49 with f1_ f2_ f3_; have f4_ := f1_.symm; have f5_ := f3_.symm; clear f1_ f2_ f3_; subst f4_; subst f5_))
        obtain ⟨Ao50, co50, eo50⟩ := R_slice HO541.out
        (first | subst eo50 | (injection eo50 with f1_ f2_ f3_; have f4_ := f1_.symm; have f5_ := f3_.symm; clear f1_ f2_ f3_; subst f4_; subst f5_))
        refine hK.out _ _ ⟨bc0_ BK538.out, bc1_ BK538.out, bc0_ BK529.out, bc1_ BK529.out⟩ (fun hHeld => ?_)
        clear hK K
        refine norm_ (a' := ?_) ?_ ?_
        rotate_left
        ·show Act.put _ (some 36) _ = _
         simp only [Act.put, s1_, s2_, s3_, i64_w, i32_w]
         rfl
        refine pq_ 10 37 12 2047 HT_.out ?_
        refine last_ (i := 11) (N := none) #[true, true, true, true, true, true, true, true, true, true, true, true] rfl rfl (one_of HT_.out (by kernel_rfl)) (by decide) (fun K hK => ?_)
        have hs51 : w48.cell? ⟨gb538, 0, none⟩ = some (.slice Ao45 x539000_2.length co45) := bc0_ BK538.out
        have hfs51 := blk_frozen BK538.out 0
        have hns51_0 := NB529_538.out
        have hns51_1 := NB530_538.out
        have hms51_0 := NB538_529.out
        have hms51_1 := NB538_530.out
        have hs52 : w48.cell? ⟨gb538, 1, none⟩ = some (.slice Ao47 x539001_2.length co47) := bc1_ BK538.out
        have hfs52 := blk_frozen BK538.out 1
        have hns52_0 := NB529_538.out
        have hns52_1 := NB530_538.out
        have hms52_0 := NB538_529.out
        have hms52_1 := NB538_530.out
        refine skip_ (w1 := ?_) (by rfl) rfl ?_ ?_
        rotate_left
        ·go_simp
         rfl
        refine hK.out _ _ ?_
        clear hK K
        refine done_ (done_of HT_.out (by kernel_rfl)) ?_
        have hnb53 := NB538_529.out
        have hnc53 := NB529_538.out
        have hnb54 := NB538_530.out
        have hnc54 := NB530_538.out
        have hcz55_0 := bc0_ BK538.out
        have hcz55_1 := bc1_ BK538.out
        have hfz55_0 := blk_frozen BK538.out 0
        have hfz55_1 := blk_frozen BK538.out 1
        have hnb56 := NB530_529.out
        have hnc56 := NB529_530.out
        have hcz57_0 := bc0_ BK530.out
        have hcz57_1 := bc1_ BK530.out
        have hfz57_0 := blk_frozen BK530.out 0
        have hfz57_1 := blk_frozen BK530.out 1
        try go_wp2
        refine bodyPost_ret (results_ct rfl _ _ gb530 26 #[.slice none 0 0, .slice none 0 0] (0, 0) _ rfl kp_ Tryd.underlying26 rfl (by kernel_rfl)) rfl ?_
        exact ⟨_, _, eW_, by first | exact Kd.R_nil _ _ _ _ _ | exact Kd.N_nil _ _ _ _ _ | exact Kd.V_nil _ _ _ _ _ | exact Kd.Q_nil _ _ _ _ _ | exact Kd.S_nil _ _ _ _ _, by first | exact Kd.R_nil _ _ _ _ _ | exact Kd.N_nil _ _ _ _ _ | exact Kd.V_nil _ _ _ _ _ | exact Kd.Q_nil _ _ _ _ _ | exact Kd.S_nil _ _ _ _ _, sU_⟩
       rw [if_neg c43] at H
       have c43b0 : decide (64 < (t542.length : Int)) = false := decide_eq_false c43
       have c43b1 : decide (64 < t542.length) = false := decide_eq_false (by omega)
       clear c43
       have H' := ak H
       clear H
       try go_wp2
       refine nx6_ (R_drew HO_539000.out) (R_drew HO_539001.out) (blk_drew BK529.out) (blk_drew BK530.out) (blk_drew BK538.out) (below_drew1 HB.out) ?_
       clear HO_539000 HO_539001 BK529 BK530 BK538 HB
       intro HO_539000 HO_539001 BK529 BK530 BK538 HB
       obtain ⟨Ao59, co59, eo59⟩ := R_slice HO_539000.out
       (first | subst eo59 | (injection eo59 with f1_ f2_ f3_; have f4_ := f1_.symm; have f5_ := f3_.symm; clear f1_ f2_ f3_; subst f4_; subst f5_))
       refine start_ (n := 12) (S := fun w' => w'.cell? ⟨gb538, 0, none⟩ = some (.slice Ao59 x539000_2.length co59) ∧ w'.cell? ⟨gb538, 1, none⟩ = some (u539001) ∧ w'.cell? ⟨gb529, 0, none⟩ = some (.slice A0_0 l0_0.length c0_0) ∧ w'.cell? ⟨gb529, 1, none⟩ = some (.slice A0_1 l0_1.length c0_1)) (ds := [11]) (bv 12 0) (by kernel_rfl) rfl rfl ⟨bc0_ BK538.out, bc1_ BK538.out, bc0_ BK529.out, bc1_ BK529.out⟩ (fun hHeld => ?_); refine with_tabW attestorref02_Power.tab9 attestorref02_Power.bits9 (fun HT_ HW_ => ?_)
       generalize wr.drew = w58 at HO_539000 HO_539001 BK529 BK530 BK538 HB hHeld ⊢
       refine pq_ 0 27 12 1 HT_.out ?_
       refine pq_ 2 29 12 5 HT_.out ?_
       refine pq_ 5 32 12 37 HT_.out ?_
       refine pq_ 7 34 12 165 HT_.out ?_
       refine tq_ 1 28 12 167 HT_.out HW_.out hHeld ?_
       refine tq_ 3 30 12 175 HT_.out HW_.out hHeld ?_
       refine tq_ 6 33 12 239 HT_.out HW_.out hHeld ?_
       refine tq_ 8 35 12 495 HT_.out HW_.out hHeld ?_
       refine oq_ 4 31 12 511 HT_.out fun K hK => ?_
       refine gs_ Tryd.func103 #[.slice Ao59 x539000_2.length co59, .slice A0_0 l0_0.length c0_0] ?_
       with_reducible refine (attestorref02_product.calls k2 _ _ x539000_2 _ _ l0_0 t539 _ ?side1 ?side2 ?side3 ?side4 A26.out).mono ?_
       (case side1 => exact cU_ ((R_reads' HO_539000.out).2.2))
       (case side2 => exact (R_reads' HO_539000.out).2.1)
       (case side3 => exact cU_ (C_below HR0_0.out HB.out))
       (case side4 => exact HC0_0.out)
       rintro e w60 ⟨v540, rfl, ho0, hb⟩
       refine ⟨_, rfl, ?_⟩
       refine nx7_ (R_elder' (rU_ HO_539000.out) (R_base ho0) hb) (R_elder' (rU_ HO_539001.out) (R_base ho0) hb) (R_lower (R_new' (R_new' ho0 (R_lt (rU_ HO_539000.out))) (R_lt (rU_ HO_539001.out))) (below_size sU_)) (blk_below (kU_ BK529.out) hb) (blk_below (kU_ BK530.out) hb) (blk_below (kU_ BK538.out) hb) (below_step sU_ hb) ?_
       clear HO_539000 HO_539001 BK529 BK530 BK538 HB
       intro HO_539000 HO_539001 HO541 BK529 BK530 BK538 HB
       (try clear hb)
       (try clear hb2)
       (try clear hk)
       (try clear hi)
       (try clear ho0)
       obtain ⟨Ao61, co61, eo61⟩ := R_slice HO_539001.out
       (first | subst eo61 | (injection eo61 with f1_ f2_ f3_; have f4_ := f1_.symm; have f5_ := f3_.symm; clear f1_ f2_ f3_; subst f4_; subst f5_))
       refine hK.out _ _ ⟨bc0_ BK538.out, bc1_ BK538.out, bc0_ BK529.out, bc1_ BK529.out⟩ (fun hHeld => ?_)
       clear hK K
       refine norm_ (a' := ?_) ?_ ?_
       rotate_left
       ·show Act.put _ (some 31) _ = _
        simp only [Act.put, s1_, s2_, s3_, i64_w, i32_w]
        rfl
       refine oq_ 9 36 12 1023 HT_.out fun K hK => ?_
       refine gs_ Tryd.func103 #[.slice Ao61 x539001_2.length co61, .slice A0_1 l0_1.length c0_1] ?_
       with_reducible refine (attestorref02_product.calls k2 _ _ x539001_2 _ _ l0_1 t542 _ ?side1 ?side2 ?side3 ?side4 A27.out).mono ?_
       (case side1 => exact cU_ ((R_reads' HO_539001.out).2.2))
       (case side2 => exact (R_reads' HO_539001.out).2.1)
       (case side3 => exact cU_ (C_below HR0_1.out HB.out))
       (case side4 => exact HC0_1.out)
       rintro e w62 ⟨v543, rfl, ho0, hb⟩
       refine ⟨_, rfl, ?_⟩
       refine nx8_ (R_elder' (rU_ HO_539000.out) (R_base ho0) hb) (R_elder' (rU_ HO_539001.out) (R_base ho0) hb) (R_elder' (rU_ HO541.out) (R_base ho0) hb) (R_lower (R_new' (R_new' (R_new' ho0 (R_lt (rU_ HO_539000.out))) (R_lt (rU_ HO_539001.out))) (R_lt (rU_ HO541.out))) (below_size sU_)) (blk_below (kU_ BK529.out) hb) (blk_below (kU_ BK530.out) hb) (blk_below (kU_ BK538.out) hb) (below_step sU_ hb) ?_
       clear HO_539000 HO_539001 HO541 BK529 BK530 BK538 HB
       intro HO_539000 HO_539001 HO541 HO544 BK529 BK530 BK538 HB
       (try clear hb)
       (try clear hb2)
       (try clear hk)
       (try clear hi)
       (try clear ho0)
       obtain ⟨Ao63, co63, eo63⟩ := R_slice HO544.out
       (first | subst eo63 | (injection eo63 with f1_ f2_ f3_; have f4_ := f1_.symm; have f5_ := f3_.symm; clear f1_ f2_ f3_; subst f4_; subst f5_))
       obtain ⟨Ao64, co64, eo64⟩ := R_slice HO541.out
       (first | subst eo64 | (injection eo64 with f1_ f2_ f3_; have f4_ := f1_.symm; have f5_ := f3_.symm; clear f1_ f2_ f3_; subst f4_; subst f5_))
       refine hK.out _ _ ⟨bc0_ BK538.out, bc1_ BK538.out, bc0_ BK529.out, bc1_ BK529.out⟩ (fun hHeld => ?_)
       clear hK K
       refine norm_ (a' := ?_) ?_ ?_
       rotate_left
       ·show Act.put _ (some 36) _ = _
        simp only [Act.put, s1_, s2_, s3_, i64_w, i32_w]
        rfl
       refine pq_ 10 37 12 2047 HT_.out ?_
       refine last_ (i := 11) (N := none) #[true, true, true, true, true, true, true, true, true, true, true, true] rfl rfl (one_of HT_.out (by kernel_rfl)) (by decide) (fun K hK => ?_)
       have hs65 : w62.cell? ⟨gb538, 0, none⟩ = some (.slice Ao59 x539000_2.length co59) := bc0_ BK538.out
       have hfs65 := blk_frozen BK538.out 0
       have hns65_0 := NB529_538.out
       have hns65_1 := NB530_538.out
       have hms65_0 := NB538_529.out
       have hms65_1 := NB538_530.out
       have hs66 : w62.cell? ⟨gb538, 1, none⟩ = some (.slice Ao61 x539001_2.length co61) := bc1_ BK538.out
       have hfs66 := blk_frozen BK538.out 1
       have hns66_0 := NB529_538.out
       have hns66_1 := NB530_538.out
       have hms66_0 := NB538_529.out
       have hms66_1 := NB538_530.out
       refine skip_ (w1 := ?_) (by rfl) rfl ?_ ?_
       rotate_left
       ·go_simp
        rfl
       refine hK.out _ _ ?_
       clear hK K
       refine done_ (done_of HT_.out (by kernel_rfl)) ?_
       have hnb67 := NB538_529.out
       have hnc67 := NB529_538.out
       have hnb68 := NB538_530.out
       have hnc68 := NB530_538.out
       have hcz69_0 := bc0_ BK538.out
       have hcz69_1 := bc1_ BK538.out
       have hfz69_0 := blk_frozen BK538.out 0
       have hfz69_1 := blk_frozen BK538.out 1
       try go_wp2
       go_roundg k2
       case measure => have := HJ4.out; have := HK2.out; omega
       case rel => exact ⟨(wrap64 (x7_2 + 1)), (t539), (t542), (.slice Ao64 t539.length co64), (.slice Ao63 t542.length co63), gb_, H', ⟨by have := HJ4.out; have := HK2.out; omega⟩, ⟨by (with_reducible repeat (first | apply Kd.R_alloc | apply Kd.R_drewN | apply R_drew)); exact R_mono (R_far (p := ⟨gb538, 1, none⟩) (R_far (p := ⟨gb538, 0, none⟩) (R_types HO541.out BK538.out (by decide)) (fun _ hk => hk.2) (.slice Ao64 t539.length co64)) (fun _ hk => hk.2) (.slice Ao63 t542.length co63)) (fun _ hk => hk.1.2)⟩, ⟨by (with_reducible repeat (first | apply Kd.R_alloc | apply Kd.R_drewN | apply R_drew)); exact R_mono (R_far (p := ⟨gb538, 1, none⟩) (R_far (p := ⟨gb538, 0, none⟩) (R_types HO544.out BK538.out (by decide)) (fun _ hk => hk.2) (.slice Ao64 t539.length co64)) (fun _ hk => hk.2) (.slice Ao63 t542.length co63)) (fun _ hk => hk.1.2)⟩, ⟨by (with_reducible repeat (first | refine blk_drewN ?_ _ | refine blk_drew ?_ | refine blk_alloc ?_ _)); refine blk_far ?_ NB529_538.out _; (with_reducible repeat (first | refine blk_drewN ?_ _ | refine blk_drew ?_ | refine blk_alloc ?_ _)); refine blk_far ?_ NB529_538.out _; (with_reducible repeat (first | refine blk_drewN ?_ _ | refine blk_drew ?_ | refine blk_alloc ?_ _)); exact BK529.out⟩, ⟨by (with_reducible repeat (first | refine blk_drewN ?_ _ | refine blk_drew ?_ | refine blk_alloc ?_ _)); refine blk_far ?_ NB530_538.out _; (with_reducible repeat (first | refine blk_drewN ?_ _ | refine blk_drew ?_ | refine blk_alloc ?_ _)); refine blk_far ?_ NB530_538.out _; (with_reducible repeat (first | refine blk_drewN ?_ _ | refine blk_drew ?_ | refine blk_alloc ?_ _)); exact BK530.out⟩, ⟨by (with_reducible repeat (first | refine blk_drewN ?_ _ | refine blk_drew ?_ | refine blk_alloc ?_ _)); refine blk_put (cs := #[.slice Ao64 t539.length co64, .slice Ao61 x539001_2.length co61]) ?_ 1 _ rfl; (with_reducible repeat (first | refine blk_drewN ?_ _ | refine blk_drew ?_ | refine blk_alloc ?_ _)); refine blk_put (cs := #[.slice Ao59 x539000_2.length co59, .slice Ao61 x539001_2.length co61]) ?_ 0 _ rfl; (with_reducible repeat (first | refine blk_drewN ?_ _ | refine blk_drew ?_ | refine blk_alloc ?_ _)); exact BK538.out⟩, ⟨sU_⟩⟩
      rw [if_neg c25] at H
      have c25b0 := decide_eq_false c25
      clear c25
      simp only [Option.some.injEq, Prod.mk.injEq] at H
      obtain ⟨rfl, rfl, rfl⟩ := H
      have hnb70 := NB538_529.out
      have hnc70 := NB529_538.out
      have hnb71 := NB538_530.out
      have hnc71 := NB530_538.out
      have hcz72_0 := bc0_ BK538.out
      have hcz72_1 := bc1_ BK538.out
      have hfz72_0 := blk_frozen BK538.out 0
      have hfz72_1 := blk_frozen BK538.out 1
      obtain ⟨Ao73, co73, eo73⟩ := R_slice HO_539000.out
      subst eo73
      have hnb74 := NB530_529.out
      have hnc74 := NB529_530.out
      have hcz75_0 := bc0_ BK530.out
      have hcz75_1 := bc1_ BK530.out
      have hfz75_0 := blk_frozen BK530.out 0
      have hfz75_1 := blk_frozen BK530.out 1
      obtain ⟨Ao76, co76, eo76⟩ := R_slice HO_539001.out
      subst eo76
      go_wp2
      refine bodyPost_ret (results_ct rfl _ _ gb530 26 #[.slice Ao73 x539000_2.length co73, .slice Ao76 x539001_2.length co76] (0, 0) _ rfl kp_ Tryd.underlying26 rfl (by kernel_rfl)) rfl ?_
      exact ⟨_, _, eW_, by (with_reducible repeat (first | apply Kd.R_alloc | apply Kd.R_drewN | apply R_drew)); exact R_mono (R_far (p := ⟨gb530, 1, none⟩) (R_far (p := ⟨gb530, 0, none⟩) (R_types HO_539000.out BK530.out (by decide)) (fun _ hk => hk.2) (.slice Ao73 x539000_2.length co73)) (fun _ hk => hk.2) (.slice Ao76 x539001_2.length co76)) (fun _ hk => hk.1), by (with_reducible repeat (first | apply Kd.R_alloc | apply Kd.R_drewN | apply R_drew)); exact R_mono (R_far (p := ⟨gb530, 1, none⟩) (R_far (p := ⟨gb530, 0, none⟩) (R_types HO_539001.out BK530.out (by decide)) (fun _ hk => hk.2) (.slice Ao73 x539000_2.length co73)) (fun _ hk => hk.2) (.slice Ao76 x539001_2.length co76)) (fun _ hk => hk.1), sU_⟩
 replace c4 := Bool.eq_false_iff.mpr c4
 subst c4
 rw [if_neg (show ¬ (false = true) by decide)] at H
 simp only [Option.some.injEq, Prod.mk.injEq] at H
 obtain ⟨rfl, rfl, rfl⟩ := H
 go_enter Tryd.func55, Tryd.ntmps55
 go_wp2_with (first | ((with_reducible refine gate_dst (N := 2) rfl ?_); (try (refine gate_guard (by rfl) ?_; dsimp only)); refine bx_ 2 26 #[.slice A0_0 l0_0.length c0_0, .slice A0_1 l0_1.length c0_1] ?_; intro gb529 hg w77 hbox hb; refine nx4_ (below_step (bU_ HB.out) hb) (hbox) ((hs_ hg (below_size (bU_ HB.out)))) ((hs_ hg (below_size (bU_ HB.out)))) ?_; clear HB; intro HB BK529 GW529 GE529; clear hb hbox hg) | ((with_reducible refine gate_dst (N := 4) rfl ?_); (try (refine gate_guard (by rfl) ?_; dsimp only)); refine bx_ 4 26 #[.slice none 0 0, .slice none 0 0] ?_; intro gb530 hg w78 hbox hb; refine nx7_ (blk_below (kU_ BK529.out) hb) (below_step sU_ hb) (hbox) ((hs_ hg (below_size sU_) : w.heap.size ≤ gb530)) ((hs_ hg (below_size sU_) : w.heap.size ≤ gb530)) ((hl_ hg (kU_ BK529.out))) ((hm_ hg (kU_ BK529.out))) ?_; clear BK529 HB; intro BK529 HB BK530 GW530 GE530 NB529_530 NB530_529; clear hb hbox hg; have hnb79 := NB529_530.out; have hnc79 := NB530_529.out; have hcz80_0 := bc0_ BK529.out; have hcz80_1 := bc1_ BK529.out; have hfz80_0 := blk_frozen BK529.out 0; have hfz80_1 := blk_frozen BK529.out 1) | ((with_reducible refine gate_callee (f := 102) rfl ?_); refine gl_ (some 9) Tryd.func102 #[.agg #[.slice A0_0 l0_0.length c0_0, .slice A0_1 l0_1.length c0_1]] ?_; (with_reducible refine (attestorref02_Valid.calls k _ _ l0_0 _ _ l0_1 false _ ?side1 ?side2 ?side3 ?side4 A3.out).mono ?_); (case side1 => exact cU_ (C_below HR0_0.out HB.out)); (case side2 => exact HC0_0.out); (case side3 => exact cU_ (C_below HR0_1.out HB.out)); (case side4 => exact HC0_1.out); rintro e w81 ⟨rfl, hb⟩; refine ⟨_, rfl, ?_⟩; refine nx3_ (blk_below (kU_ BK529.out) hb) (blk_below (kU_ BK530.out) hb) (below_step sU_ hb) ?_; clear BK529 BK530 HB; intro BK529 BK530 HB; clear hb; have hcz82_0 := bc0_ BK530.out; have hcz82_1 := bc1_ BK530.out; have hfz82_0 := blk_frozen BK530.out 0; have hfz82_1 := blk_frozen BK530.out 1))
 refine bodyPost_ret (results_ct rfl _ _ gb530 26 #[.slice none 0 0, .slice none 0 0] (0, 0) _ rfl kp_ Tryd.underlying26 rfl (by kernel_rfl)) rfl ?_
 exact ⟨_, _, eW_, by first | exact Kd.R_nil _ _ _ _ _ | exact Kd.N_nil _ _ _ _ _ | exact Kd.V_nil _ _ _ _ _ | exact Kd.Q_nil _ _ _ _ _ | exact Kd.S_nil _ _ _ _ _, by first | exact Kd.R_nil _ _ _ _ _ | exact Kd.N_nil _ _ _ _ _ | exact Kd.V_nil _ _ _ _ _ | exact Kd.Q_nil _ _ _ _ _ | exact Kd.S_nil _ _ _ _ _, sU_⟩

def attestorref02_Add.j0 : Nat → Bool → List Int → List Int → List Int → List Int → Option (List Int × List Int × Int)
 | 0, _, _, _, _, _ => none
 | k + 1, x13, x546000, x546001, x547000, x547001 => if x13 = true then (some (([] : List Int), ([] : List Int), 1)) else ((attestorref02_product.f k x546000 x547001).bind fun t550 => ((attestorref02_product.f k x547000 x546001).bind fun t553 => ((attestorref02_sum.f k t550 t553).bind fun t556 => ((attestorref02_product.f k x546001 x547001).bind fun t559 => ((attestorref02_lowest.f k t556 t559).bind fun bt562 => (some (bt562.1, bt562.2.1, bt562.2.2)))))))
def attestorref02_Add.f (k : Nat) (l0_0 : List Int) (l0_1 : List Int) (l1_0 : List Int) (l1_1 : List Int) : Option (List Int × List Int × Int) := (attestorref02_Valid.f k l0_0 l0_1).bind fun t548 => (if t548 = true then ((attestorref02_Valid.f k l1_0 l1_1).bind fun t549 => (attestorref02_Add.j0 k (!t549) l0_0 l0_1 l1_0 l1_1)) else (attestorref02_Add.j0 k true l0_0 l0_1 l1_0 l1_1))
def attestorref02_Add.T3 : Bool × List (List Nat × List Nat) := (true, [([], []), ([0], [0]), ([], []), ([2], [2]), ([1, 3], [1, 3]), ([], []), ([5], [5]), ([], []), ([7], [7]), ([6, 8, 4], [6, 8]), ([4, 9, 9], [4, 9]), ([], []), ([11], [11]), ([], []), ([13], [13]), ([12, 14, 10], [12, 14]), ([10, 15, 15], [10, 15]), ([16], [16]), ([16], [16]), ([17, 16, 0, 1, 2, 3, 4, 5, 6, 7, 8, 9, 10, 11, 12, 13, 14, 15, 16, 17, 18], [17]), ([18, 19, 0, 1, 2, 3, 4, 5, 6, 7, 8, 9, 10, 11, 12, 13, 14, 15, 16, 17, 18, 19], [18])])
def attestorref02_Add.B3 : List Nat := [0, 1, 0, 4, 15, 0, 32, 0, 128, 511, 1023, 0, 2048, 0, 8192, 32767, 65535, 131071, 131071, 524287, 1048575]
theorem attestorref02_Add.tab3 : rtab .any (opsOf Tryd.f56 3) = attestorref02_Add.T3 := by kernel_rfl
theorem attestorref02_Add.bits3 : waitsOk attestorref02_Add.T3.2 attestorref02_Add.B3 = true := by kernel_rfl
set_option maxHeartbeats 8000000 in
set_option maxRecDepth 100000 in
theorem attestorref02_Add.calls (k : Nat) (A0_0 : Option Addr) (c0_0 : Nat) (l0_0 : List Int) (A0_1 : Option Addr) (c0_1 : Nat) (l0_1 : List Int) (A1_0 : Option Addr) (c1_0 : Nat) (l1_0 : List Int) (A1_1 : Option Addr) (c1_1 : Nat) (l1_1 : List Int) (r1 : List Int) (r2 : List Int) (r3 : Int) (w : World) (hr0_0 : Kd.C (Kd.int .u32) w A0_0 l0_0.length l0_0) (hc0_0 : l0_0.length ≤ c0_0) (hr0_1 : Kd.C (Kd.int .u32) w A0_1 l0_1.length l0_1) (hc0_1 : l0_1.length ≤ c0_1) (hr1_0 : Kd.C (Kd.int .u32) w A1_0 l1_0.length l1_0) (hc1_0 : l1_0.length ≤ c1_0) (hr1_1 : Kd.C (Kd.int .u32) w A1_1 l1_1.length l1_1) (hc1_1 : l1_1.length ≤ c1_1) (h : attestorref02_Add.f k l0_0 l0_1 l1_0 l1_1 = some (r1, r2, r3)) :
  Calls Tryd.prog 56 #[.agg #[.slice A0_0 l0_0.length c0_0, .slice A0_1 l0_1.length c0_1], .agg #[.slice A1_0 l1_0.length c1_0, .slice A1_1 l1_1.length c1_1]] w fun e w' => ∃ v0_ v1_ : Value, e = .returned (.tuple #[.agg #[v0_, v1_], .int .i64 r3]) ∧ Kd.R (Kd.int .u32) 115 w' w.heap.size (fun k_ => some k_ ≠ (v1_ : Value).ownBlock) v0_ r1 ∧ Kd.R (Kd.int .u32) 115 w' w.heap.size (fun k_ => some k_ ≠ (v0_ : Value).ownBlock) v1_ r2 ∧ Below w.heap.size w w' := by
 have hu26 := Tryd.underlying26
 have HR0_0 := ak hr0_0
 have HC0_0 := ak hc0_0
 clear hr0_0 hc0_0
 have HR0_1 := ak hr0_1
 have HC0_1 := ak hc0_1
 clear hr0_1 hc0_1
 have HR1_0 := ak hr1_0
 have HC1_0 := ak hc1_0
 clear hr1_0 hc1_0
 have HR1_1 := ak hr1_1
 have HC1_1 := ak hc1_1
 clear hr1_1 hc1_1
 have HB := ak (Below.refl w.heap.size w)
 have H := h
 clear h
 unfold attestorref02_Add.f at H
 have HC3 := ak H
 clear H
 go_enter Tryd.func56, Tryd.ntmps56
 go_upto_region 1 with (first | ((with_reducible refine gate_dst (N := 2) rfl ?_); refine bx_ 2 26 #[.slice A0_0 l0_0.length c0_0, .slice A0_1 l0_1.length c0_1] ?_; intro gb545 hg w4 hbox hb; refine nx4_ (below_step (bU_ HB.out) hb) (hbox) ((hs_ hg (below_size (bU_ HB.out)))) ((hs_ hg (below_size (bU_ HB.out)))) ?_; clear HB; intro HB BK545 GW545 GE545; clear hb hbox hg) | ((with_reducible refine gate_dst (N := 3) rfl ?_); refine bx_ 3 26 #[.slice A1_0 l1_0.length c1_0, .slice A1_1 l1_1.length c1_1] ?_; intro gb546 hg w5 hbox hb; refine nx7_ (blk_below (kU_ BK545.out) hb) (below_step sU_ hb) (hbox) ((hs_ hg (below_size sU_) : w.heap.size ≤ gb546)) ((hs_ hg (below_size sU_) : w.heap.size ≤ gb546)) ((hl_ hg (kU_ BK545.out))) ((hm_ hg (kU_ BK545.out))) ?_; clear BK545 HB; intro BK545 HB BK546 GW546 GE546 NB545_546 NB546_545; clear hb hbox hg) | ((with_reducible refine gate_dst (N := 4) rfl ?_); refine bx_ 4 26 #[.slice none 0 0, .slice none 0 0] ?_; intro gb547 hg w6 hbox hb; refine nx10_ (blk_below (kU_ BK545.out) hb) (blk_below (kU_ BK546.out) hb) (below_step sU_ hb) (hbox) ((hs_ hg (below_size sU_) : w.heap.size ≤ gb547)) ((hs_ hg (below_size sU_) : w.heap.size ≤ gb547)) ((hl_ hg (kU_ BK545.out))) ((hm_ hg (kU_ BK545.out))) ((hl_ hg (kU_ BK546.out))) ((hm_ hg (kU_ BK546.out))) ?_; clear BK545 BK546 HB; intro BK545 BK546 HB BK547 GW547 GE547 NB545_547 NB547_545 NB546_547 NB547_546; clear hb hbox hg))
 (try simp only [Act.put, s1_, s2_, s3_])
 go_cut [13] (fun v13 wc => ∃ (kq : Nat) (x13_2 : Bool), v13 = .bool x13_2 ∧ Aside0 (attestorref02_Add.j0 kq x13_2 l0_0 l0_1 l1_0 l1_1 = some (r1, r2, r3)) ∧ Aside0 (kq ≤ k) ∧ Aside0 (wc.heap[gb545]? = some (.cells #[(.slice A0_0 l0_0.length c0_0), (.slice A0_1 l0_1.length c0_1)] 26 (0, 0))) ∧ Aside0 (wc.heap[gb546]? = some (.cells #[(.slice A1_0 l1_0.length c1_0), (.slice A1_1 l1_1.length c1_1)] 26 (0, 0))) ∧ Aside0 (wc.heap[gb547]? = some (.cells #[(.slice none 0 0), (.slice none 0 0)] 26 (0, 0))) ∧ Aside0 (Below w.heap.size w wc))
 case first =>
  have H := HC3.out
  clear HC3
  revert H
  refine bd_ fun t548 A7 H => ?_
  by_cases c8 : t548 = true
  ·subst c8
   rw [if_pos rfl] at H
   revert H
   refine bd_ fun t549 A9 H => ?_
   have H' := ak H
   clear H
   have hnb10 := NB545_546.out
   have hnc10 := NB546_545.out
   have hnb11 := NB545_547.out
   have hnc11 := NB547_545.out
   have hcz12_0 := bc0_ BK545.out
   have hcz12_1 := bc1_ BK545.out
   have hfz12_0 := blk_frozen BK545.out 0
   have hfz12_1 := blk_frozen BK545.out 1
   go_wp2_with (first | ((with_reducible refine gate_callee (f := 102) rfl ?_); refine gl_ (some 7) Tryd.func102 #[.agg #[.slice A0_0 l0_0.length c0_0, .slice A0_1 l0_1.length c0_1]] ?_; (with_reducible refine (attestorref02_Valid.calls k _ _ l0_0 _ _ l0_1 true _ ?side1 ?side2 ?side3 ?side4 A7.out).mono ?_); (case side1 => exact cU_ (C_below HR0_0.out HB.out)); (case side2 => exact HC0_0.out); (case side3 => exact cU_ (C_below HR0_1.out HB.out)); (case side4 => exact HC0_1.out); rintro e w13 ⟨rfl, hb⟩; refine ⟨_, rfl, ?_⟩; refine nx4_ (blk_below (kU_ BK545.out) hb) (blk_below (kU_ BK546.out) hb) (blk_below (kU_ BK547.out) hb) (below_step sU_ hb) ?_; clear BK545 BK546 BK547 HB; intro BK545 BK546 BK547 HB; clear hb; have hnb14 := NB546_547.out; have hnc14 := NB547_546.out; have hcz15_0 := bc0_ BK546.out; have hcz15_1 := bc1_ BK546.out; have hfz15_0 := blk_frozen BK546.out 0; have hfz15_1 := blk_frozen BK546.out 1) | (go_at_call 102; (with_reducible refine (attestorref02_Valid.calls k _ _ l1_0 _ _ l1_1 t549 _ ?side1 ?side2 ?side3 ?side4 A9.out).mono ?_); (case side1 => exact cU_ (C_below HR1_0.out HB.out)); (case side2 => exact HC1_0.out); (case side3 => exact cU_ (C_below HR1_1.out HB.out)); (case side4 => exact HC1_1.out); rintro e w16 ⟨rfl, hb⟩; refine nx4_ (blk_below (kU_ BK545.out) hb) (blk_below (kU_ BK546.out) hb) (blk_below (kU_ BK547.out) hb) (below_step sU_ hb) ?_; clear BK545 BK546 BK547 HB; intro BK545 BK546 BK547 HB; clear hb))
   go_meet
   case rel => exact ⟨_, (!t549), gb_, H', ⟨by first | omega | exact Nat.le_refl _⟩, ⟨by (with_reducible repeat (first | refine blk_drewN ?_ _ | refine blk_drew ?_ | refine blk_alloc ?_ _)); exact BK545.out⟩, ⟨by (with_reducible repeat (first | refine blk_drewN ?_ _ | refine blk_drew ?_ | refine blk_alloc ?_ _)); exact BK546.out⟩, ⟨by (with_reducible repeat (first | refine blk_drewN ?_ _ | refine blk_drew ?_ | refine blk_alloc ?_ _)); exact BK547.out⟩, ⟨sU_⟩⟩
  replace c8 := Bool.eq_false_iff.mpr c8
  subst c8
  rw [if_neg (show ¬ (false = true) by decide)] at H
  have H' := ak H
  clear H
  have hnb17 := NB545_546.out
  have hnc17 := NB546_545.out
  have hnb18 := NB545_547.out
  have hnc18 := NB547_545.out
  have hcz19_0 := bc0_ BK545.out
  have hcz19_1 := bc1_ BK545.out
  have hfz19_0 := blk_frozen BK545.out 0
  have hfz19_1 := blk_frozen BK545.out 1
  go_wp2_with (first | ((with_reducible refine gate_callee (f := 102) rfl ?_); refine gl_ (some 7) Tryd.func102 #[.agg #[.slice A0_0 l0_0.length c0_0, .slice A0_1 l0_1.length c0_1]] ?_; (with_reducible refine (attestorref02_Valid.calls k _ _ l0_0 _ _ l0_1 false _ ?side1 ?side2 ?side3 ?side4 A7.out).mono ?_); (case side1 => exact cU_ (C_below HR0_0.out HB.out)); (case side2 => exact HC0_0.out); (case side3 => exact cU_ (C_below HR0_1.out HB.out)); (case side4 => exact HC0_1.out); rintro e w20 ⟨rfl, hb⟩; refine ⟨_, rfl, ?_⟩; refine nx4_ (blk_below (kU_ BK545.out) hb) (blk_below (kU_ BK546.out) hb) (blk_below (kU_ BK547.out) hb) (below_step sU_ hb) ?_; clear BK545 BK546 BK547 HB; intro BK545 BK546 BK547 HB; clear hb))
  go_meet
  case rel => exact ⟨_, (true), gb_, H', ⟨by first | omega | exact Nat.le_refl _⟩, ⟨by (with_reducible repeat (first | refine blk_drewN ?_ _ | refine blk_drew ?_ | refine blk_alloc ?_ _)); exact BK545.out⟩, ⟨by (with_reducible repeat (first | refine blk_drewN ?_ _ | refine blk_drew ?_ | refine blk_alloc ?_ _)); exact BK546.out⟩, ⟨by (with_reducible repeat (first | refine blk_drewN ?_ _ | refine blk_drew ?_ | refine blk_alloc ?_ _)); exact BK547.out⟩, ⟨sU_⟩⟩
 case rest =>
  clear HC3
  (try clear c1); (try clear p2); (try clear c5); (try clear c8); (try clear c10); (try clear c11); (try clear c14); (try clear c17); (try clear c18); (try clear hcz12_0); (try clear hcz12_1); (try clear hcz15_0); (try clear hcz15_1); (try clear hcz19_0); (try clear hcz19_1); (try clear hfz12_0); (try clear hfz12_1); (try clear hfz15_0); (try clear hfz15_1); (try clear hfz19_0); (try clear hfz19_1)
  obtain ⟨kq, x13_2, rfl, HA, HJ2, BK545, BK546, BK547, HB⟩ := hcut
  cases kq with
  | zero => exact absurd HA.out (by simp [attestorref02_Add.j0])
  | succ kj2 =>
   have H := HA.out
   clear HA
   simp only [attestorref02_Add.j0] at H
   by_cases c21 : x13_2 = true
   ·subst c21
    rw [if_pos rfl] at H
    simp only [Option.some.injEq, Prod.mk.injEq] at H
    obtain ⟨rfl, rfl, rfl⟩ := H
    have hnb22 := NB547_545.out
    have hnc22 := NB545_547.out
    have hnb23 := NB547_546.out
    have hnc23 := NB546_547.out
    have hcz24_0 := bc0_ BK547.out
    have hcz24_1 := bc1_ BK547.out
    have hfz24_0 := blk_frozen BK547.out 0
    have hfz24_1 := blk_frozen BK547.out 1
    go_wp2
    refine bodyPost_ret (results_ct rfl _ _ gb547 26 #[.slice none 0 0, .slice none 0 0] (0, 0) _ rfl kp_ Tryd.underlying26 rfl (by kernel_rfl)) rfl ?_
    exact ⟨_, _, eW_, by first | exact Kd.R_nil _ _ _ _ _ | exact Kd.N_nil _ _ _ _ _ | exact Kd.V_nil _ _ _ _ _ | exact Kd.Q_nil _ _ _ _ _ | exact Kd.S_nil _ _ _ _ _, by first | exact Kd.R_nil _ _ _ _ _ | exact Kd.N_nil _ _ _ _ _ | exact Kd.V_nil _ _ _ _ _ | exact Kd.Q_nil _ _ _ _ _ | exact Kd.S_nil _ _ _ _ _, sU_⟩
   replace c21 := Bool.eq_false_iff.mpr c21
   subst c21
   rw [if_neg (show ¬ (false = true) by decide)] at H
   revert H
   refine bd_ fun t550 A25 H => ?_
   revert H
   refine bd_ fun t553 A26 H => ?_
   revert H
   refine bd_ fun t556 A27 H => ?_
   revert H
   refine bd_ fun t559 A28 H => ?_
   revert H
   refine bd3_ fun t562 t565 t568 A29 H => ?_
   try dsimp only at H
   simp only [Option.some.injEq, Prod.mk.injEq] at H
   obtain ⟨rfl, rfl, rfl⟩ := H
   try go_wp2
   refine nx4_ (blk_drew BK545.out) (blk_drew BK546.out) (blk_drew BK547.out) (below_drew1 HB.out) ?_
   clear BK545 BK546 BK547 HB
   intro BK545 BK546 BK547 HB
   refine start_ (n := 21) (S := fun w' => w'.cell? ⟨gb545, 0, none⟩ = some (.slice A0_0 l0_0.length c0_0) ∧ w'.cell? ⟨gb545, 1, none⟩ = some (.slice A0_1 l0_1.length c0_1) ∧ w'.cell? ⟨gb546, 0, none⟩ = some (.slice A1_0 l1_0.length c1_0) ∧ w'.cell? ⟨gb546, 1, none⟩ = some (.slice A1_1 l1_1.length c1_1)) (ds := []) (bv 21 0) (by kernel_rfl) rfl rfl ⟨bc0_ BK545.out, bc1_ BK545.out, bc0_ BK546.out, bc1_ BK546.out⟩ (fun hHeld => ?_); refine with_tabW attestorref02_Add.tab3 attestorref02_Add.bits3 (fun HT_ HW_ => ?_)
   generalize wc.drew = w30 at BK545 BK546 BK547 HB hHeld ⊢
   refine pq_ 0 15 21 1 HT_.out ?_
   refine pq_ 2 17 21 5 HT_.out ?_
   refine pq_ 5 20 21 37 HT_.out ?_
   refine pq_ 7 22 21 165 HT_.out ?_
   refine pq_ 11 26 21 2213 HT_.out ?_
   refine pq_ 13 28 21 10405 HT_.out ?_
   refine tq_ 1 16 21 10407 HT_.out HW_.out hHeld ?_
   refine tq_ 3 18 21 10415 HT_.out HW_.out hHeld ?_
   refine tq_ 6 21 21 10479 HT_.out HW_.out hHeld ?_
   refine tq_ 8 23 21 10735 HT_.out HW_.out hHeld ?_
   refine tq_ 12 27 21 14831 HT_.out HW_.out hHeld ?_
   refine tq_ 14 29 21 31215 HT_.out HW_.out hHeld ?_
   refine oq_ 4 19 21 31231 HT_.out fun K hK => ?_
   refine gs_ Tryd.func103 #[.slice A0_0 l0_0.length c0_0, .slice A1_1 l1_1.length c1_1] ?_
   with_reducible refine (attestorref02_product.calls kj2 _ _ l0_0 _ _ l1_1 t550 _ ?side1 ?side2 ?side3 ?side4 A25.out).mono ?_
   (case side1 => exact cU_ (C_below HR0_0.out HB.out))
   (case side2 => exact HC0_0.out)
   (case side3 => exact cU_ (C_below HR1_1.out HB.out))
   (case side4 => exact HC1_1.out)
   rintro e w31 ⟨v551, rfl, ho0, hb⟩
   refine ⟨_, rfl, ?_⟩
   refine nx5_ (R_lower ho0 (below_size sU_)) (blk_below (kU_ BK545.out) hb) (blk_below (kU_ BK546.out) hb) (blk_below (kU_ BK547.out) hb) (below_step sU_ hb) ?_
   clear BK545 BK546 BK547 HB
   intro HO552 BK545 BK546 BK547 HB
   (try clear hb)
   (try clear hb2)
   (try clear hk)
   (try clear hi)
   (try clear ho0)
   refine hK.out _ _ ⟨bc0_ BK545.out, bc1_ BK545.out, bc0_ BK546.out, bc1_ BK546.out⟩ (fun hHeld => ?_)
   clear hK K
   refine norm_ (a' := ?_) ?_ ?_
   rotate_left
   ·show Act.put _ (some 19) _ = _
    simp only [Act.put, s1_, s2_, s3_, i64_w, i32_w]
    rfl
   refine oq_ 9 24 21 31743 HT_.out fun K hK => ?_
   refine gs_ Tryd.func103 #[.slice A1_0 l1_0.length c1_0, .slice A0_1 l0_1.length c0_1] ?_
   with_reducible refine (attestorref02_product.calls kj2 _ _ l1_0 _ _ l0_1 t553 _ ?side1 ?side2 ?side3 ?side4 A26.out).mono ?_
   (case side1 => exact cU_ (C_below HR1_0.out HB.out))
   (case side2 => exact HC1_0.out)
   (case side3 => exact cU_ (C_below HR0_1.out HB.out))
   (case side4 => exact HC0_1.out)
   rintro e w32 ⟨v554, rfl, ho0, hb⟩
   refine ⟨_, rfl, ?_⟩
   refine nx6_ (R_elder' (rU_ HO552.out) (R_base ho0) hb) (R_lower (R_new' ho0 (R_lt (rU_ HO552.out))) (below_size sU_)) (blk_below (kU_ BK545.out) hb) (blk_below (kU_ BK546.out) hb) (blk_below (kU_ BK547.out) hb) (below_step sU_ hb) ?_
   clear HO552 BK545 BK546 BK547 HB
   intro HO552 HO555 BK545 BK546 BK547 HB
   (try clear hb)
   (try clear hb2)
   (try clear hk)
   (try clear hi)
   (try clear ho0)
   obtain ⟨Ao33, co33, eo33⟩ := R_slice HO552.out
   (first | subst eo33 | (injection eo33 with f1_ f2_ f3_; have f4_ := f1_.symm; have f5_ := f3_.symm; clear f1_ f2_ f3_; subst f4_; subst f5_))
   obtain ⟨Ao34, co34, eo34⟩ := R_slice HO555.out
   (first | subst eo34 | (injection eo34 with f1_ f2_ f3_; have f4_ := f1_.symm; have f5_ := f3_.symm; clear f1_ f2_ f3_; subst f4_; subst f5_))
   refine hK.out _ _ ⟨bc0_ BK545.out, bc1_ BK545.out, bc0_ BK546.out, bc1_ BK546.out⟩ (fun hHeld => ?_)
   clear hK K
   refine norm_ (a' := ?_) ?_ ?_
   rotate_left
   ·show Act.put _ (some 24) _ = _
    simp only [Act.put, s1_, s2_, s3_, i64_w, i32_w]
    rfl
   refine oq_ 10 25 21 32767 HT_.out fun K hK => ?_
   refine gs_ Tryd.func105 #[.slice Ao33 t550.length co33, .slice Ao34 t553.length co34] ?_
   with_reducible refine (attestorref02_sum.calls kj2 _ _ t550 _ _ t553 t556 _ ?side1 ?side2 ?side3 ?side4 A27.out).mono ?_
   (case side1 => exact cU_ ((R_reads' HO552.out).2.2))
   (case side2 => exact (R_reads' HO552.out).2.1)
   (case side3 => exact cU_ ((R_reads' HO555.out).2.2))
   (case side4 => exact (R_reads' HO555.out).2.1)
   rintro e w35 ⟨v557, rfl, ho0, hb⟩
   refine ⟨_, rfl, ?_⟩
   refine nx7_ (R_elder' (rU_ HO552.out) (R_base ho0) hb) (R_elder' (rU_ HO555.out) (R_base ho0) hb) (R_lower (R_new' (R_new' ho0 (R_lt (rU_ HO552.out))) (R_lt (rU_ HO555.out))) (below_size sU_)) (blk_below (kU_ BK545.out) hb) (blk_below (kU_ BK546.out) hb) (blk_below (kU_ BK547.out) hb) (below_step sU_ hb) ?_
   clear HO552 HO555 BK545 BK546 BK547 HB
   intro HO552 HO555 HO558 BK545 BK546 BK547 HB
   (try clear hb)
   (try clear hb2)
   (try clear hk)
   (try clear hi)
   (try clear ho0)
   refine hK.out _ _ ⟨bc0_ BK545.out, bc1_ BK545.out, bc0_ BK546.out, bc1_ BK546.out⟩ (fun hHeld => ?_)
   clear hK K
   refine norm_ (a' := ?_) ?_ ?_
   rotate_left
   ·show Act.put _ (some 25) _ = _
    simp only [Act.put, s1_, s2_, s3_, i64_w, i32_w]
    rfl
   refine oq_ 15 30 21 65535 HT_.out fun K hK => ?_
   refine gs_ Tryd.func103 #[.slice A0_1 l0_1.length c0_1, .slice A1_1 l1_1.length c1_1] ?_
   with_reducible refine (attestorref02_product.calls kj2 _ _ l0_1 _ _ l1_1 t559 _ ?side1 ?side2 ?side3 ?side4 A28.out).mono ?_
   (case side1 => exact cU_ (C_below HR0_1.out HB.out))
   (case side2 => exact HC0_1.out)
   (case side3 => exact cU_ (C_below HR1_1.out HB.out))
   (case side4 => exact HC1_1.out)
   rintro e w36 ⟨v560, rfl, ho0, hb⟩
   refine ⟨_, rfl, ?_⟩
   refine nx8_ (R_elder' (rU_ HO552.out) (R_base ho0) hb) (R_elder' (rU_ HO555.out) (R_base ho0) hb) (R_elder' (rU_ HO558.out) (R_base ho0) hb) (R_lower (R_new' (R_new' (R_new' ho0 (R_lt (rU_ HO552.out))) (R_lt (rU_ HO555.out))) (R_lt (rU_ HO558.out))) (below_size sU_)) (blk_below (kU_ BK545.out) hb) (blk_below (kU_ BK546.out) hb) (blk_below (kU_ BK547.out) hb) (below_step sU_ hb) ?_
   clear HO552 HO555 HO558 BK545 BK546 BK547 HB
   intro HO552 HO555 HO558 HO561 BK545 BK546 BK547 HB
   (try clear hb)
   (try clear hb2)
   (try clear hk)
   (try clear hi)
   (try clear ho0)
   obtain ⟨Ao37, co37, eo37⟩ := R_slice HO558.out
   (first | subst eo37 | (injection eo37 with f1_ f2_ f3_; have f4_ := f1_.symm; have f5_ := f3_.symm; clear f1_ f2_ f3_; subst f4_; subst f5_))
   obtain ⟨Ao38, co38, eo38⟩ := R_slice HO561.out
   (first | subst eo38 | (injection eo38 with f1_ f2_ f3_; have f4_ := f1_.symm; have f5_ := f3_.symm; clear f1_ f2_ f3_; subst f4_; subst f5_))
   refine hK.out _ _ ⟨bc0_ BK545.out, bc1_ BK545.out, bc0_ BK546.out, bc1_ BK546.out⟩ (fun hHeld => ?_)
   clear hK K
   refine norm_ (a' := ?_) ?_ ?_
   rotate_left
   ·show Act.put _ (some 30) _ = _
    simp only [Act.put, s1_, s2_, s3_, i64_w, i32_w]
    rfl
   refine oq_ 16 31 21 131071 HT_.out fun K hK => ?_
   refine gs_ Tryd.func104 #[.slice Ao37 t556.length co37, .slice Ao38 t559.length co38] ?_
   with_reducible refine (attestorref02_lowest.calls kj2 _ _ t556 _ _ t559 t562 t565 t568 _ ?side1 ?side2 ?side3 ?side4 A29.out).mono ?_
   (case side1 => exact cU_ ((R_reads' HO558.out).2.2))
   (case side2 => exact (R_reads' HO558.out).2.1)
   (case side3 => exact cU_ ((R_reads' HO561.out).2.2))
   (case side4 => exact (R_reads' HO561.out).2.1)
   rintro e w39 ⟨v563, v566, rfl, ho0, ho1, hb⟩
   refine ⟨_, rfl, ?_⟩
   refine nx10_ (R_mono (Kd.R_told (Kd.R_told (Kd.R_old (rU_ HO552.out) hb) (R_base ho0)) (R_base ho1)) (fun _ h_ => h_.1)) (R_mono (Kd.R_told (Kd.R_told (Kd.R_old (rU_ HO555.out) hb) (R_base ho0)) (R_base ho1)) (fun _ h_ => h_.1)) (R_mono (Kd.R_told (Kd.R_told (Kd.R_old (rU_ HO558.out) hb) (R_base ho0)) (R_base ho1)) (fun _ h_ => h_.1)) (R_mono (Kd.R_told (Kd.R_told (Kd.R_old (rU_ HO561.out) hb) (R_base ho0)) (R_base ho1)) (fun _ h_ => h_.1)) (R_lower (R_new' (R_new' (R_new' (R_new' ho0 (R_lt (rU_ HO552.out))) (R_lt (rU_ HO555.out))) (R_lt (rU_ HO558.out))) (R_lt (rU_ HO561.out))) (below_size sU_)) (R_lower (R_new' (R_new' (R_new' (R_new' ho1 (R_lt (rU_ HO552.out))) (R_lt (rU_ HO555.out))) (R_lt (rU_ HO558.out))) (R_lt (rU_ HO561.out))) (below_size sU_)) (blk_below (kU_ BK545.out) hb) (blk_below (kU_ BK546.out) hb) (blk_below (kU_ BK547.out) hb) (below_step sU_ hb) ?_
   clear HO552 HO555 HO558 HO561 BK545 BK546 BK547 HB
   intro HO552 HO555 HO558 HO561 HO564 HO567 BK545 BK546 BK547 HB
   (try clear hb)
   (try clear hb2)
   (try clear hk)
   (try clear hi)
   (try clear ho0)
   (try clear ho1)
   obtain ⟨Ao40, co40, eo40⟩ := R_slice HO564.out
   (first | subst eo40 | (injection eo40 with f1_ f2_ f3_; have f4_ := f1_.symm; have f5_ := f3_.symm; clear f1_ f2_ f3_; subst f4_; subst f5_))
   obtain ⟨Ao42, co42, eo42⟩ := R_slice HO567.out
   (first | subst eo42 | (injection eo42 with f1_ f2_ f3_; have f4_ := f1_.symm; have f5_ := f3_.symm; clear f1_ f2_ f3_; subst f4_; subst f5_))
   refine hK.out _ _ ⟨bc0_ BK545.out, bc1_ BK545.out, bc0_ BK546.out, bc1_ BK546.out⟩ (fun hHeld => ?_)
   clear hK K
   refine norm_ (a' := ?_) ?_ ?_
   rotate_left
   ·show Act.put _ (some 31) _ = _
    simp only [Act.put, s1_, s2_, s3_, i64_w, i32_w]
    rfl
   refine pq_ 17 32 21 262143 HT_.out ?_
   refine pq_ 18 33 21 524287 HT_.out ?_
   refine one_ (i := 19) (N := none) (bv 21 1048575) rfl rfl (one_of HT_.out (by kernel_rfl)) (by decide) (fun K hK => ?_)
   have hs41 : w39.cell? ⟨gb547, 0, none⟩ = some (.slice none 0 0) := bc0_ BK547.out
   have hfs41 := blk_frozen BK547.out 0
   have hns41_0 := NB545_547.out
   have hns41_1 := NB546_547.out
   have hms41_0 := NB547_545.out
   have hms41_1 := NB547_546.out
   have hs43 : w39.cell? ⟨gb547, 1, none⟩ = some (.slice none 0 0) := bc1_ BK547.out
   have hfs43 := blk_frozen BK547.out 1
   have hns43_0 := NB545_547.out
   have hns43_1 := NB546_547.out
   have hms43_0 := NB547_545.out
   have hms43_1 := NB547_546.out
   refine skip_ (w1 := ?_) (by rfl) rfl ?_ ?_
   rotate_left
   ·go_simp
    rfl
   refine hK.out _ _ ⟨((cell_far (p := ⟨gb547, _, none⟩) NB545_547.out _).trans (((cell_far (p := ⟨gb547, _, none⟩) NB545_547.out _).trans (hHeld.1)))), ((cell_far (p := ⟨gb547, _, none⟩) NB545_547.out _).trans (((cell_far (p := ⟨gb547, _, none⟩) NB545_547.out _).trans (hHeld.2.1)))), ((cell_far (p := ⟨gb547, _, none⟩) NB546_547.out _).trans (((cell_far (p := ⟨gb547, _, none⟩) NB546_547.out _).trans (hHeld.2.2.1)))), ((cell_far (p := ⟨gb547, _, none⟩) NB546_547.out _).trans (((cell_far (p := ⟨gb547, _, none⟩) NB546_547.out _).trans (hHeld.2.2.2))))⟩ (fun hHeld => ?_)
   clear hK K
   refine pq_ 20 5 21 2097151 HT_.out ?_
   refine done_ (done_of HT_.out (by kernel_rfl)) ?_
   try go_wp2
   refine bodyPost_ret (results_ct rfl _ _ gb547 26 #[.slice Ao40 t562.length co40, .slice Ao42 t565.length co42] (0, 0) _ rfl kp_ Tryd.underlying26 rfl (by kernel_rfl)) rfl ?_
   exact ⟨_, _, eW_, by (with_reducible repeat (first | apply Kd.R_alloc | apply Kd.R_drewN | apply R_drew)); exact R_mono (R_far (p := ⟨gb547, 1, none⟩) (R_far (p := ⟨gb547, 0, none⟩) (R_types HO564.out BK547.out (by decide)) (fun _ hk => hk.2) (.slice Ao40 t562.length co40)) (fun _ hk => hk.2) (.slice Ao42 t565.length co42)) (fun _ hk => hk.1.1.1.1.1), by (with_reducible repeat (first | apply Kd.R_alloc | apply Kd.R_drewN | apply R_drew)); exact R_mono (R_far (p := ⟨gb547, 1, none⟩) (R_far (p := ⟨gb547, 0, none⟩) (R_types HO567.out BK547.out (by decide)) (fun _ hk => hk.2) (.slice Ao40 t562.length co40)) (fun _ hk => hk.2) (.slice Ao42 t565.length co42)) (fun _ hk => hk.1.1.1.1.1), sU_⟩

def attestorref02_Order.j0 : Nat → Bool → List Int → List Int → List Int → List Int → Option (Int)
 | 0, _, _, _, _, _ => none
 | k + 1, x12, x570000, x570001, x571000, x571001 => if x12 = true then (some 0) else ((attestorref02_product.f k x570000 x571001).bind fun t573 => ((attestorref02_product.f k x571000 x570001).bind fun t576 => ((attestorref02_order.f k t573 t576).bind fun t579 => (some t579))))
def attestorref02_Order.f (k : Nat) (l0_0 : List Int) (l0_1 : List Int) (l1_0 : List Int) (l1_1 : List Int) : Option (Int) := (attestorref02_Valid.f k l0_0 l0_1).bind fun t571 => (if t571 = true then ((attestorref02_Valid.f k l1_0 l1_1).bind fun t572 => (attestorref02_Order.j0 k (!t572) l0_0 l0_1 l1_0 l1_1)) else (attestorref02_Order.j0 k true l0_0 l0_1 l1_0 l1_1))
def attestorref02_Order.T3 : Bool × List (List Nat × List Nat) := (true, [([], []), ([0], [0]), ([], []), ([2], [2]), ([1, 3], [1, 3]), ([], []), ([5], [5]), ([], []), ([7], [7]), ([6, 8, 4], [6, 8]), ([4, 9, 9], [4, 9]), ([10, 10, 0, 1, 2, 3, 4, 5, 6, 7, 8, 9, 10], [10])])
def attestorref02_Order.B3 : List Nat := [0, 1, 0, 4, 15, 0, 32, 0, 128, 511, 1023, 2047]
theorem attestorref02_Order.tab3 : rtab .any (opsOf Tryd.f106 3) = attestorref02_Order.T3 := by kernel_rfl
theorem attestorref02_Order.bits3 : waitsOk attestorref02_Order.T3.2 attestorref02_Order.B3 = true := by kernel_rfl
set_option maxHeartbeats 8000000 in
set_option maxRecDepth 100000 in
theorem attestorref02_Order.calls (k : Nat) (A0_0 : Option Addr) (c0_0 : Nat) (l0_0 : List Int) (A0_1 : Option Addr) (c0_1 : Nat) (l0_1 : List Int) (A1_0 : Option Addr) (c1_0 : Nat) (l1_0 : List Int) (A1_1 : Option Addr) (c1_1 : Nat) (l1_1 : List Int) (r : Int) (w : World) (hr0_0 : Kd.C (Kd.int .u32) w A0_0 l0_0.length l0_0) (hc0_0 : l0_0.length ≤ c0_0) (hr0_1 : Kd.C (Kd.int .u32) w A0_1 l0_1.length l0_1) (hc0_1 : l0_1.length ≤ c0_1) (hr1_0 : Kd.C (Kd.int .u32) w A1_0 l1_0.length l1_0) (hc1_0 : l1_0.length ≤ c1_0) (hr1_1 : Kd.C (Kd.int .u32) w A1_1 l1_1.length l1_1) (hc1_1 : l1_1.length ≤ c1_1) (h : attestorref02_Order.f k l0_0 l0_1 l1_0 l1_1 = some r) :
  Calls Tryd.prog 106 #[.agg #[.slice A0_0 l0_0.length c0_0, .slice A0_1 l0_1.length c0_1], .agg #[.slice A1_0 l1_0.length c1_0, .slice A1_1 l1_1.length c1_1]] w fun e w' => e = .returned (.int .i64 r) ∧ Below w.heap.size w w' := by
 have hu26 := Tryd.underlying26
 have HR0_0 := ak hr0_0
 have HC0_0 := ak hc0_0
 clear hr0_0 hc0_0
 have HR0_1 := ak hr0_1
 have HC0_1 := ak hc0_1
 clear hr0_1 hc0_1
 have HR1_0 := ak hr1_0
 have HC1_0 := ak hc1_0
 clear hr1_0 hc1_0
 have HR1_1 := ak hr1_1
 have HC1_1 := ak hc1_1
 clear hr1_1 hc1_1
 have HB := ak (Below.refl w.heap.size w)
 have H := h
 clear h
 unfold attestorref02_Order.f at H
 have HC3 := ak H
 clear H
 go_enter Tryd.func106, Tryd.ntmps106
 go_upto_region 1 with (first | ((with_reducible refine gate_dst (N := 2) rfl ?_); refine bx_ 2 26 #[.slice A0_0 l0_0.length c0_0, .slice A0_1 l0_1.length c0_1] ?_; intro gb569 hg w4 hbox hb; refine nx4_ (below_step (bU_ HB.out) hb) (hbox) ((hs_ hg (below_size (bU_ HB.out)))) ((hs_ hg (below_size (bU_ HB.out)))) ?_; clear HB; intro HB BK569 GW569 GE569; clear hb hbox hg) | ((with_reducible refine gate_dst (N := 3) rfl ?_); refine bx_ 3 26 #[.slice A1_0 l1_0.length c1_0, .slice A1_1 l1_1.length c1_1] ?_; intro gb570 hg w5 hbox hb; refine nx7_ (blk_below (kU_ BK569.out) hb) (below_step sU_ hb) (hbox) ((hs_ hg (below_size sU_) : w.heap.size ≤ gb570)) ((hs_ hg (below_size sU_) : w.heap.size ≤ gb570)) ((hl_ hg (kU_ BK569.out))) ((hm_ hg (kU_ BK569.out))) ?_; clear BK569 HB; intro BK569 HB BK570 GW570 GE570 NB569_570 NB570_569; clear hb hbox hg))
 (try simp only [Act.put, s1_, s2_, s3_])
 go_cut [12] (fun v12 wc => ∃ (kq : Nat) (x12_2 : Bool), v12 = .bool x12_2 ∧ Aside0 (attestorref02_Order.j0 kq x12_2 l0_0 l0_1 l1_0 l1_1 = some r) ∧ Aside0 (kq ≤ k) ∧ Aside0 (wc.heap[gb569]? = some (.cells #[(.slice A0_0 l0_0.length c0_0), (.slice A0_1 l0_1.length c0_1)] 26 (0, 0))) ∧ Aside0 (wc.heap[gb570]? = some (.cells #[(.slice A1_0 l1_0.length c1_0), (.slice A1_1 l1_1.length c1_1)] 26 (0, 0))) ∧ Aside0 (Below w.heap.size w wc))
 case first =>
  have H := HC3.out
  clear HC3
  revert H
  refine bd_ fun t571 A6 H => ?_
  by_cases c7 : t571 = true
  ·subst c7
   rw [if_pos rfl] at H
   revert H
   refine bd_ fun t572 A8 H => ?_
   have H' := ak H
   clear H
   have hnb9 := NB569_570.out
   have hnc9 := NB570_569.out
   have hcz10_0 := bc0_ BK569.out
   have hcz10_1 := bc1_ BK569.out
   have hfz10_0 := blk_frozen BK569.out 0
   have hfz10_1 := blk_frozen BK569.out 1
   go_wp2_with (first | ((with_reducible refine gate_callee (f := 102) rfl ?_); refine gl_ (some 6) Tryd.func102 #[.agg #[.slice A0_0 l0_0.length c0_0, .slice A0_1 l0_1.length c0_1]] ?_; (with_reducible refine (attestorref02_Valid.calls k _ _ l0_0 _ _ l0_1 true _ ?side1 ?side2 ?side3 ?side4 A6.out).mono ?_); (case side1 => exact cU_ (C_below HR0_0.out HB.out)); (case side2 => exact HC0_0.out); (case side3 => exact cU_ (C_below HR0_1.out HB.out)); (case side4 => exact HC0_1.out); rintro e w11 ⟨rfl, hb⟩; refine ⟨_, rfl, ?_⟩; refine nx3_ (blk_below (kU_ BK569.out) hb) (blk_below (kU_ BK570.out) hb) (below_step sU_ hb) ?_; clear BK569 BK570 HB; intro BK569 BK570 HB; clear hb; have hcz12_0 := bc0_ BK570.out; have hcz12_1 := bc1_ BK570.out; have hfz12_0 := blk_frozen BK570.out 0; have hfz12_1 := blk_frozen BK570.out 1) | (go_at_call 102; (with_reducible refine (attestorref02_Valid.calls k _ _ l1_0 _ _ l1_1 t572 _ ?side1 ?side2 ?side3 ?side4 A8.out).mono ?_); (case side1 => exact cU_ (C_below HR1_0.out HB.out)); (case side2 => exact HC1_0.out); (case side3 => exact cU_ (C_below HR1_1.out HB.out)); (case side4 => exact HC1_1.out); rintro e w13 ⟨rfl, hb⟩; refine nx3_ (blk_below (kU_ BK569.out) hb) (blk_below (kU_ BK570.out) hb) (below_step sU_ hb) ?_; clear BK569 BK570 HB; intro BK569 BK570 HB; clear hb))
   go_meet
   case rel => exact ⟨_, (!t572), gb_, H', ⟨by first | omega | exact Nat.le_refl _⟩, ⟨by (with_reducible repeat (first | refine blk_drewN ?_ _ | refine blk_drew ?_ | refine blk_alloc ?_ _)); exact BK569.out⟩, ⟨by (with_reducible repeat (first | refine blk_drewN ?_ _ | refine blk_drew ?_ | refine blk_alloc ?_ _)); exact BK570.out⟩, ⟨sU_⟩⟩
  replace c7 := Bool.eq_false_iff.mpr c7
  subst c7
  rw [if_neg (show ¬ (false = true) by decide)] at H
  have H' := ak H
  clear H
  have hnb14 := NB569_570.out
  have hnc14 := NB570_569.out
  have hcz15_0 := bc0_ BK569.out
  have hcz15_1 := bc1_ BK569.out
  have hfz15_0 := blk_frozen BK569.out 0
  have hfz15_1 := blk_frozen BK569.out 1
  go_wp2_with (first | ((with_reducible refine gate_callee (f := 102) rfl ?_); refine gl_ (some 6) Tryd.func102 #[.agg #[.slice A0_0 l0_0.length c0_0, .slice A0_1 l0_1.length c0_1]] ?_; (with_reducible refine (attestorref02_Valid.calls k _ _ l0_0 _ _ l0_1 false _ ?side1 ?side2 ?side3 ?side4 A6.out).mono ?_); (case side1 => exact cU_ (C_below HR0_0.out HB.out)); (case side2 => exact HC0_0.out); (case side3 => exact cU_ (C_below HR0_1.out HB.out)); (case side4 => exact HC0_1.out); rintro e w16 ⟨rfl, hb⟩; refine ⟨_, rfl, ?_⟩; refine nx3_ (blk_below (kU_ BK569.out) hb) (blk_below (kU_ BK570.out) hb) (below_step sU_ hb) ?_; clear BK569 BK570 HB; intro BK569 BK570 HB; clear hb))
  go_meet
  case rel => exact ⟨_, (true), gb_, H', ⟨by first | omega | exact Nat.le_refl _⟩, ⟨by (with_reducible repeat (first | refine blk_drewN ?_ _ | refine blk_drew ?_ | refine blk_alloc ?_ _)); exact BK569.out⟩, ⟨by (with_reducible repeat (first | refine blk_drewN ?_ _ | refine blk_drew ?_ | refine blk_alloc ?_ _)); exact BK570.out⟩, ⟨sU_⟩⟩
 case rest =>
  clear HC3
  (try clear c1); (try clear p2); (try clear c7); (try clear c9); (try clear c10); (try clear c14); (try clear hcz10_0); (try clear hcz10_1); (try clear hcz12_0); (try clear hcz12_1); (try clear hcz15_0); (try clear hcz15_1); (try clear hfz10_0); (try clear hfz10_1); (try clear hfz12_0); (try clear hfz12_1); (try clear hfz15_0); (try clear hfz15_1)
  obtain ⟨kq, x12_2, rfl, HA, HJ2, BK569, BK570, HB⟩ := hcut
  cases kq with
  | zero => exact absurd HA.out (by simp [attestorref02_Order.j0])
  | succ kj2 =>
   have H := HA.out
   clear HA
   simp only [attestorref02_Order.j0] at H
   by_cases c17 : x12_2 = true
   ·subst c17
    rw [if_pos rfl] at H
    obtain rfl := Option.some.inj H
    go_wp2
    go_ret
    exact ⟨eW_, sU_⟩
   replace c17 := Bool.eq_false_iff.mpr c17
   subst c17
   rw [if_neg (show ¬ (false = true) by decide)] at H
   revert H
   refine bd_ fun t573 A18 H => ?_
   revert H
   refine bd_ fun t576 A19 H => ?_
   revert H
   refine bd_ fun t579 A20 H => ?_
   obtain rfl := Option.some.inj H
   try go_wp2
   refine nx3_ (blk_drew BK569.out) (blk_drew BK570.out) (below_drew1 HB.out) ?_
   clear BK569 BK570 HB
   intro BK569 BK570 HB
   refine start_ (n := 12) (S := fun w' => w'.cell? ⟨gb569, 0, none⟩ = some (.slice A0_0 l0_0.length c0_0) ∧ w'.cell? ⟨gb569, 1, none⟩ = some (.slice A0_1 l0_1.length c0_1) ∧ w'.cell? ⟨gb570, 0, none⟩ = some (.slice A1_0 l1_0.length c1_0) ∧ w'.cell? ⟨gb570, 1, none⟩ = some (.slice A1_1 l1_1.length c1_1)) (ds := []) (bv 12 0) (by kernel_rfl) rfl rfl ⟨bc0_ BK569.out, bc1_ BK569.out, bc0_ BK570.out, bc1_ BK570.out⟩ (fun hHeld => ?_); refine with_tabW attestorref02_Order.tab3 attestorref02_Order.bits3 (fun HT_ HW_ => ?_)
   generalize wc.drew = w21 at BK569 BK570 HB hHeld ⊢
   refine pq_ 0 13 12 1 HT_.out ?_
   refine pq_ 2 15 12 5 HT_.out ?_
   refine pq_ 5 18 12 37 HT_.out ?_
   refine pq_ 7 20 12 165 HT_.out ?_
   refine tq_ 1 14 12 167 HT_.out HW_.out hHeld ?_
   refine tq_ 3 16 12 175 HT_.out HW_.out hHeld ?_
   refine tq_ 6 19 12 239 HT_.out HW_.out hHeld ?_
   refine tq_ 8 21 12 495 HT_.out HW_.out hHeld ?_
   refine oq_ 4 17 12 511 HT_.out fun K hK => ?_
   refine gs_ Tryd.func103 #[.slice A0_0 l0_0.length c0_0, .slice A1_1 l1_1.length c1_1] ?_
   with_reducible refine (attestorref02_product.calls kj2 _ _ l0_0 _ _ l1_1 t573 _ ?side1 ?side2 ?side3 ?side4 A18.out).mono ?_
   (case side1 => exact cU_ (C_below HR0_0.out HB.out))
   (case side2 => exact HC0_0.out)
   (case side3 => exact cU_ (C_below HR1_1.out HB.out))
   (case side4 => exact HC1_1.out)
   rintro e w22 ⟨v574, rfl, ho0, hb⟩
   refine ⟨_, rfl, ?_⟩
   refine nx4_ (R_lower ho0 (below_size sU_)) (blk_below (kU_ BK569.out) hb) (blk_below (kU_ BK570.out) hb) (below_step sU_ hb) ?_
   clear BK569 BK570 HB
   intro HO575 BK569 BK570 HB
   (try clear hb)
   (try clear hb2)
   (try clear hk)
   (try clear hi)
   (try clear ho0)
   refine hK.out _ _ ⟨bc0_ BK569.out, bc1_ BK569.out, bc0_ BK570.out, bc1_ BK570.out⟩ (fun hHeld => ?_)
   clear hK K
   refine norm_ (a' := ?_) ?_ ?_
   rotate_left
   ·show Act.put _ (some 17) _ = _
    simp only [Act.put, s1_, s2_, s3_, i64_w, i32_w]
    rfl
   refine oq_ 9 22 12 1023 HT_.out fun K hK => ?_
   refine gs_ Tryd.func103 #[.slice A1_0 l1_0.length c1_0, .slice A0_1 l0_1.length c0_1] ?_
   with_reducible refine (attestorref02_product.calls kj2 _ _ l1_0 _ _ l0_1 t576 _ ?side1 ?side2 ?side3 ?side4 A19.out).mono ?_
   (case side1 => exact cU_ (C_below HR1_0.out HB.out))
   (case side2 => exact HC1_0.out)
   (case side3 => exact cU_ (C_below HR0_1.out HB.out))
   (case side4 => exact HC0_1.out)
   rintro e w23 ⟨v577, rfl, ho0, hb⟩
   refine ⟨_, rfl, ?_⟩
   refine nx5_ (R_elder' (rU_ HO575.out) (R_base ho0) hb) (R_lower (R_new' ho0 (R_lt (rU_ HO575.out))) (below_size sU_)) (blk_below (kU_ BK569.out) hb) (blk_below (kU_ BK570.out) hb) (below_step sU_ hb) ?_
   clear HO575 BK569 BK570 HB
   intro HO575 HO578 BK569 BK570 HB
   (try clear hb)
   (try clear hb2)
   (try clear hk)
   (try clear hi)
   (try clear ho0)
   obtain ⟨Ao24, co24, eo24⟩ := R_slice HO575.out
   (first | subst eo24 | (injection eo24 with f1_ f2_ f3_; have f4_ := f1_.symm; have f5_ := f3_.symm; clear f1_ f2_ f3_; subst f4_; subst f5_))
   obtain ⟨Ao25, co25, eo25⟩ := R_slice HO578.out
   (first | subst eo25 | (injection eo25 with f1_ f2_ f3_; have f4_ := f1_.symm; have f5_ := f3_.symm; clear f1_ f2_ f3_; subst f4_; subst f5_))
   refine hK.out _ _ ⟨bc0_ BK569.out, bc1_ BK569.out, bc0_ BK570.out, bc1_ BK570.out⟩ (fun hHeld => ?_)
   clear hK K
   refine norm_ (a' := ?_) ?_ ?_
   rotate_left
   ·show Act.put _ (some 22) _ = _
    simp only [Act.put, s1_, s2_, s3_, i64_w, i32_w]
    rfl
   refine oq_ 10 23 12 2047 HT_.out fun K hK => ?_
   refine gs_ Tryd.func130 #[.slice Ao24 t573.length co24, .slice Ao25 t576.length co25] ?_
   with_reducible refine (attestorref02_order.calls kj2 _ _ t573 _ _ t576 t579 _ ?side1 ?side2 ?side3 ?side4 A20.out).mono ?_
   (case side1 => exact cU_ ((R_reads' HO575.out).2.2))
   (case side2 => exact (R_reads' HO575.out).2.1)
   (case side3 => exact cU_ ((R_reads' HO578.out).2.2))
   (case side4 => exact (R_reads' HO578.out).2.1)
   rintro e w' ⟨rfl, ⟨nd, rfl⟩⟩
   refine ⟨_, rfl, ?_⟩
   refine hK.out _ _ ⟨bc0_ BK569.out, bc1_ BK569.out, bc0_ BK570.out, bc1_ BK570.out⟩ (fun hHeld => ?_)
   clear hK K
   refine norm_ (a' := ?_) ?_ ?_
   rotate_left
   ·show Act.put _ (some 23) _ = _
    simp only [Act.put, s1_, s2_, s3_, i64_w, i32_w]
    rfl
   refine pq_ 11 4 12 4095 HT_.out ?_
   refine done_ (done_of HT_.out (by kernel_rfl)) ?_
   try go_wp2
   go_ret
   exact ⟨eW_, sU_⟩

def attestorref11_least.f (k : Nat) (l0_0 : List Int) (l0_1 : List Int) : Option (List Int × List Int) := (attestorref02_Of.f k 1 1).bind fun bt582 => ((attestorref02_Order.f k l0_0 l0_1 bt582.1 bt582.2.1).bind fun t590 => (if t590 > 0 then (some (bt582.1, bt582.2.1)) else (some (l0_0, l0_1))))
set_option maxHeartbeats 8000000 in
set_option maxRecDepth 100000 in
theorem attestorref11_least.calls (k : Nat) (P0_0_ : Nat → Prop) (A0_0 : Option Addr) (c0_0 : Nat) (l0_0 : List Int) (P0_1_ : Nat → Prop) (A0_1 : Option Addr) (c0_1 : Nat) (l0_1 : List Int) (r1 : List Int) (r2 : List Int) (w : World) (hs0_0 : Kd.V (Kd.int .u32) 115 w w.heap.size (fun k_ => P0_0_ k_) (.slice A0_0 l0_0.length c0_0) l0_0) (hs0_1 : Kd.V (Kd.int .u32) 115 w w.heap.size (fun k_ => P0_1_ k_) (.slice A0_1 l0_1.length c0_1) l0_1) (h : attestorref11_least.f k l0_0 l0_1 = some (r1, r2)) :
  Calls Tryd.prog 57 #[.agg #[.slice A0_0 l0_0.length c0_0, .slice A0_1 l0_1.length c0_1]] w fun e w' => ∃ v0_ v1_ : Value, e = .returned (.agg #[v0_, v1_]) ∧ Kd.V (Kd.int .u32) 115 w' w.heap.size (fun k_ => ((P0_0_ k_ ∨ P0_1_ k_) ∨ w.heap.size ≤ k_)) v0_ r1 ∧ Kd.V (Kd.int .u32) 115 w' w.heap.size (fun k_ => ((P0_0_ k_ ∨ P0_1_ k_) ∨ w.heap.size ≤ k_)) v1_ r2 ∧ Below w.heap.size w w' := by
 have hu26 := Tryd.underlying26
 have HO0_0 := ak (show Kd.V (Kd.int .u32) 115 w w.heap.size (fun k_ => ((P0_0_ k_ ∨ P0_1_ k_) ∨ w.heap.size ≤ k_)) (.slice A0_0 l0_0.length c0_0) l0_0 from V_mono hs0_0 (fun k_ hk => .inl (.inl hk)))
 have HO0_1 := ak (show Kd.V (Kd.int .u32) 115 w w.heap.size (fun k_ => ((P0_0_ k_ ∨ P0_1_ k_) ∨ w.heap.size ≤ k_)) (.slice A0_1 l0_1.length c0_1) l0_1 from V_mono hs0_1 (fun k_ hk => .inl (.inr hk)))
 have HB := ak (Below.refl w.heap.size w)
 have H := h
 clear h
 unfold attestorref11_least.f at H
 revert H
 refine bd3_ fun t582 t585 t588 A2 H => ?_
 try dsimp only at H
 revert H
 refine bd_ fun t590 A3 H => ?_
 by_cases c4 : t590 > 0
 ·rw [if_pos c4] at H
  have c4b0 : decide (0 < t590) = true := decide_eq_true c4
  clear c4
  simp only [Option.some.injEq, Prod.mk.injEq] at H
  obtain ⟨rfl, rfl⟩ := H
  go_enter Tryd.func57, Tryd.ntmps57
  go_wp2_with (first | ((with_reducible refine gate_dst (N := 1) rfl ?_); refine bx_ 1 26 #[.slice A0_0 l0_0.length c0_0, .slice A0_1 l0_1.length c0_1] ?_; intro gb580 hg w5 hbox hb; refine nx6_ (V_below (V_elderB (vU_ HO0_0.out) gb580 (Nat.le_of_eq hg.symm)) hb) (V_below (V_elderB (vU_ HO0_1.out) gb580 (Nat.le_of_eq hg.symm)) hb) (below_step (bU_ HB.out) hb) (hbox) ((hs_ hg (below_size (bU_ HB.out)))) ((hs_ hg (below_size (bU_ HB.out)))) ?_; clear HO0_0 HO0_1 HB; intro HO0_0 HO0_1 HB BK580 GW580 GE580; clear hb hbox hg) | ((with_reducible refine gate_dst (N := 2) rfl ?_); refine bx_ 2 26 #[.slice none 0 0, .slice none 0 0] ?_; intro gb581 hg w6 hbox hb; refine nx9_ (V_below (V_elderB (vU_ HO0_0.out) gb581 (Nat.le_of_eq hg.symm)) hb) (V_below (V_elderB (vU_ HO0_1.out) gb581 (Nat.le_of_eq hg.symm)) hb) (blk_below (kU_ BK580.out) hb) (below_step sU_ hb) (hbox) ((hs_ hg (below_size sU_) : w.heap.size ≤ gb581)) ((hs_ hg (below_size sU_) : w.heap.size ≤ gb581)) ((hl_ hg (kU_ BK580.out))) ((hm_ hg (kU_ BK580.out))) ?_; clear HO0_0 HO0_1 BK580 HB; intro HO0_0 HO0_1 BK580 HB BK581 GW581 GE581 NB580_581 NB581_580; clear hb hbox hg) | ((with_reducible refine gate_callee (f := 53) rfl ?_); refine gl_ (some 6) Tryd.func53 #[.int .u64 1, .int .u64 1] ?_; (with_reducible refine (attestorref02_Of.calls k 1 1 t582 t585 t588 _ A2.out).mono ?_); rintro e w7 ⟨v583, v586, rfl, ho0, ho1, hb⟩; refine ⟨_, rfl, ?_⟩; refine nx7_ (V_mono (Kd.V_told (Kd.V_told (Kd.V_old (vU_ HO0_0.out) hb) (R_base ho0)) (R_base ho1)) (fun _ h_ => h_.1)) (V_mono (Kd.V_told (Kd.V_told (Kd.V_old (vU_ HO0_1.out) hb) (R_base ho0)) (R_base ho1)) (fun _ h_ => h_.1)) (R_lower (R_newM (M := fun k_ => (w.heap.size ≤ k_)) ho0 (below_size sU_) (fun k_ h_ => h_)) (below_size sU_)) (R_lower (R_newM (M := fun k_ => (w.heap.size ≤ k_)) ho1 (below_size sU_) (fun k_ h_ => h_)) (below_size sU_)) (blk_below (kU_ BK580.out) hb) (blk_below (kU_ BK581.out) hb) (below_step sU_ hb) ?_; clear HO0_0 HO0_1 BK580 BK581 HB; intro HO0_0 HO0_1 HO584 HO587 BK580 BK581 HB; clear hb ho0 ho1) | ((with_reducible refine gate_dst (N := 3) rfl ?_); refine bx_ 3 26 #[.slice none 0 0, .slice none 0 0] ?_; intro gb589 hg w8 hbox hb; refine nx14_ (V_below (V_elderB (vU_ HO0_0.out) gb589 (Nat.le_of_eq hg.symm)) hb) (V_below (V_elderB (vU_ HO0_1.out) gb589 (Nat.le_of_eq hg.symm)) hb) (R_below (rU_ HO584.out) hb) (R_below (rU_ HO587.out) hb) (blk_below (kU_ BK580.out) hb) (blk_below (kU_ BK581.out) hb) (below_step sU_ hb) (hbox) ((hs_ hg (below_size sU_) : w.heap.size ≤ gb589)) ((hs_ hg (below_size sU_) : w.heap.size ≤ gb589)) ((hl_ hg (kU_ BK580.out))) ((hm_ hg (kU_ BK580.out))) ((hl_ hg (kU_ BK581.out))) ((hm_ hg (kU_ BK581.out))) ?_; clear HO0_0 HO0_1 HO584 HO587 BK580 BK581 HB; intro HO0_0 HO0_1 HO584 HO587 BK580 BK581 HB BK589 GW589 GE589 NB580_589 NB589_580 NB581_589 NB589_581; clear hb hbox hg; obtain ⟨Ao9, co9, eo9⟩ := R_slice HO584.out; subst eo9; have hnb10 := NB589_580.out; have hnc10 := NB580_589.out; have hnb11 := NB589_581.out; have hnc11 := NB581_589.out; have hcz12_0 := bc0_ BK589.out; have hcz12_1 := bc1_ BK589.out; have hfz12_0 := blk_frozen BK589.out 0; have hfz12_1 := blk_frozen BK589.out 1; obtain ⟨Ao13, co13, eo13⟩ := R_slice HO587.out; subst eo13; have hnb14 := NB580_581.out; have hnc14 := NB581_580.out; have hcz15_0 := bc0_ BK580.out; have hcz15_1 := bc1_ BK580.out; have hfz15_0 := blk_frozen BK580.out 0; have hfz15_1 := blk_frozen BK580.out 1) | ((with_reducible refine gate_callee (f := 106) rfl ?_); refine gl_ (some 11) Tryd.func106 #[.agg #[.slice A0_0 l0_0.length c0_0, .slice A0_1 l0_1.length c0_1], .agg #[.slice Ao9 t582.length co9, .slice Ao13 t585.length co13]] ?_; (with_reducible refine (attestorref02_Order.calls k _ _ l0_0 _ _ l0_1 _ _ t582 _ _ t585 t590 _ ?side1 ?side2 ?side3 ?side4 ?side5 ?side6 ?side7 ?side8 A3.out).mono ?_); (case side1 => refine (V_reads' (e := 115) (base := w.heap.size) (ok := fun k_ => (((((((P0_0_ k_ ∨ P0_1_ k_) ∨ w.heap.size ≤ k_) ∧ k_ ≠ gb580) ∧ k_ ≠ gb581) ∧ some k_ ≠ (.slice Ao9 t582.length co9 : Value).ownBlock) ∧ some k_ ≠ (.slice Ao13 t585.length co13 : Value).ownBlock) ∧ k_ ≠ gb589)) (n := l0_0.length) (c := c0_0) ?_).2.2; exact (vL_ (vf_ gb589 HO0_0.out fun _ hk => hk.2))); (case side2 => exact (V_reads' HO0_0.out).2.1); (case side3 => refine (V_reads' (e := 115) (base := w.heap.size) (ok := fun k_ => (((((((P0_0_ k_ ∨ P0_1_ k_) ∨ w.heap.size ≤ k_) ∧ k_ ≠ gb580) ∧ k_ ≠ gb581) ∧ some k_ ≠ (.slice Ao9 t582.length co9 : Value).ownBlock) ∧ some k_ ≠ (.slice Ao13 t585.length co13 : Value).ownBlock) ∧ k_ ≠ gb589)) (n := l0_1.length) (c := c0_1) ?_).2.2; exact (vL_ (vf_ gb589 HO0_1.out fun _ hk => hk.2))); (case side4 => exact (V_reads' HO0_1.out).2.1); (case side5 => refine (R_reads' (e := 115) (base := w.heap.size) (ok := fun k_ => ((w.heap.size ≤ k_) ∧ some k_ ≠ (.slice Ao13 t585.length co13 : Value).ownBlock)) (n := t582.length) (c := co9) ?_).2.2; exact (rL_ (rf_ HO584.out BK589.out))); (case side6 => exact (R_reads' HO584.out).2.1); (case side7 => refine (R_reads' (e := 115) (base := w.heap.size) (ok := fun k_ => ((w.heap.size ≤ k_) ∧ some k_ ≠ (.slice Ao9 t582.length co9 : Value).ownBlock)) (n := t585.length) (c := co13) ?_).2.2; exact (rL_ (rf_ HO587.out BK589.out))); (case side8 => exact (R_reads' HO587.out).2.1); rintro e w16 ⟨rfl, hb⟩; refine ⟨_, rfl, ?_⟩; refine nx8_ (V_below (vL_ (vf_ gb589 HO0_0.out fun _ hk => hk.2)) hb) (V_below (vL_ (vf_ gb589 HO0_1.out fun _ hk => hk.2)) hb) (R_below (rL_ (rf_ HO584.out BK589.out)) hb) (R_below (rL_ (rf_ HO587.out BK589.out)) hb) (blk_below (g := gb580) (o := .cells #[.slice A0_0 l0_0.length c0_0, .slice A0_1 l0_1.length c0_1] 26 (0, 0)) kp_ hb) (blk_below (g := gb581) (o := .cells #[.slice none 0 0, .slice none 0 0] 26 (0, 0)) kp_ hb) (blk_below (g := gb589) (o := .cells #[.slice Ao9 t582.length co9, .slice Ao13 t585.length co13] 26 (0, 0)) kp_ hb) (below_step sU_ hb) ?_; clear HO0_0 HO0_1 HO584 HO587 BK580 BK581 BK589 HB; intro HO0_0 HO0_1 HO584 HO587 BK580 BK581 BK589 HB; clear hb; have hcz17_0 := bc0_ BK589.out; have hcz17_1 := bc1_ BK589.out; have hfz17_0 := blk_frozen BK589.out 0; have hfz17_1 := blk_frozen BK589.out 1; have hcz18_0 := bc0_ BK581.out; have hcz18_1 := bc1_ BK581.out; have hfz18_0 := blk_frozen BK581.out 0; have hfz18_1 := blk_frozen BK581.out 1))
  refine bodyPost_ret (results_cell_row rfl _ _ gb581 26 #[.slice Ao9 t582.length co9, .slice Ao13 t585.length co13] (0, 0) _ rfl kp_ Tryd.underlying26 rfl (by kernel_rfl)) rfl ?_
  exact ⟨_, _, eW_, V_mono (R_V (by (with_reducible repeat (first | apply Kd.R_alloc | apply Kd.R_drewN | apply R_drew)); exact R_mono (R_far (p := ⟨gb581, 1, none⟩) (R_far (p := ⟨gb581, 0, none⟩) (R_types HO584.out BK581.out (by decide)) (fun _ hk => hk.2) (.slice Ao9 t582.length co9)) (fun _ hk => hk.2) (.slice Ao13 t585.length co13)) (fun _ hk => hk.1.1))) (fun k_ hk => by first | exact ⟨(.inr (hk.1)), hk.2⟩ | exact (.inr (hk))), V_mono (R_V (by (with_reducible repeat (first | apply Kd.R_alloc | apply Kd.R_drewN | apply R_drew)); exact R_mono (R_far (p := ⟨gb581, 1, none⟩) (R_far (p := ⟨gb581, 0, none⟩) (R_types HO587.out BK581.out (by decide)) (fun _ hk => hk.2) (.slice Ao9 t582.length co9)) (fun _ hk => hk.2) (.slice Ao13 t585.length co13)) (fun _ hk => hk.1.1))) (fun k_ hk => by first | exact ⟨(.inr (hk.1)), hk.2⟩ | exact (.inr (hk))), sU_⟩
 rw [if_neg c4] at H
 have c4b0 : decide (0 < t590) = false := decide_eq_false c4
 clear c4
 simp only [Option.some.injEq, Prod.mk.injEq] at H
 obtain ⟨rfl, rfl⟩ := H
 go_enter Tryd.func57, Tryd.ntmps57
 go_wp2_with (first | ((with_reducible refine gate_dst (N := 1) rfl ?_); refine bx_ 1 26 #[.slice A0_0 l0_0.length c0_0, .slice A0_1 l0_1.length c0_1] ?_; intro gb580 hg w19 hbox hb; refine nx6_ (V_below (V_elderB (vU_ HO0_0.out) gb580 (Nat.le_of_eq hg.symm)) hb) (V_below (V_elderB (vU_ HO0_1.out) gb580 (Nat.le_of_eq hg.symm)) hb) (below_step (bU_ HB.out) hb) (hbox) ((hs_ hg (below_size (bU_ HB.out)))) ((hs_ hg (below_size (bU_ HB.out)))) ?_; clear HO0_0 HO0_1 HB; intro HO0_0 HO0_1 HB BK580 GW580 GE580; clear hb hbox hg) | ((with_reducible refine gate_dst (N := 2) rfl ?_); refine bx_ 2 26 #[.slice none 0 0, .slice none 0 0] ?_; intro gb581 hg w20 hbox hb; refine nx9_ (V_below (V_elderB (vU_ HO0_0.out) gb581 (Nat.le_of_eq hg.symm)) hb) (V_below (V_elderB (vU_ HO0_1.out) gb581 (Nat.le_of_eq hg.symm)) hb) (blk_below (kU_ BK580.out) hb) (below_step sU_ hb) (hbox) ((hs_ hg (below_size sU_) : w.heap.size ≤ gb581)) ((hs_ hg (below_size sU_) : w.heap.size ≤ gb581)) ((hl_ hg (kU_ BK580.out))) ((hm_ hg (kU_ BK580.out))) ?_; clear HO0_0 HO0_1 BK580 HB; intro HO0_0 HO0_1 BK580 HB BK581 GW581 GE581 NB580_581 NB581_580; clear hb hbox hg) | ((with_reducible refine gate_callee (f := 53) rfl ?_); refine gl_ (some 6) Tryd.func53 #[.int .u64 1, .int .u64 1] ?_; (with_reducible refine (attestorref02_Of.calls k 1 1 t582 t585 t588 _ A2.out).mono ?_); rintro e w21 ⟨v583, v586, rfl, ho0, ho1, hb⟩; refine ⟨_, rfl, ?_⟩; refine nx7_ (V_mono (Kd.V_told (Kd.V_told (Kd.V_old (vU_ HO0_0.out) hb) (R_base ho0)) (R_base ho1)) (fun _ h_ => h_.1)) (V_mono (Kd.V_told (Kd.V_told (Kd.V_old (vU_ HO0_1.out) hb) (R_base ho0)) (R_base ho1)) (fun _ h_ => h_.1)) (R_lower (R_newM (M := fun k_ => (w.heap.size ≤ k_)) ho0 (below_size sU_) (fun k_ h_ => h_)) (below_size sU_)) (R_lower (R_newM (M := fun k_ => (w.heap.size ≤ k_)) ho1 (below_size sU_) (fun k_ h_ => h_)) (below_size sU_)) (blk_below (kU_ BK580.out) hb) (blk_below (kU_ BK581.out) hb) (below_step sU_ hb) ?_; clear HO0_0 HO0_1 BK580 BK581 HB; intro HO0_0 HO0_1 HO584 HO587 BK580 BK581 HB; clear hb ho0 ho1) | ((with_reducible refine gate_dst (N := 3) rfl ?_); refine bx_ 3 26 #[.slice none 0 0, .slice none 0 0] ?_; intro gb589 hg w22 hbox hb; refine nx14_ (V_below (V_elderB (vU_ HO0_0.out) gb589 (Nat.le_of_eq hg.symm)) hb) (V_below (V_elderB (vU_ HO0_1.out) gb589 (Nat.le_of_eq hg.symm)) hb) (R_below (rU_ HO584.out) hb) (R_below (rU_ HO587.out) hb) (blk_below (kU_ BK580.out) hb) (blk_below (kU_ BK581.out) hb) (below_step sU_ hb) (hbox) ((hs_ hg (below_size sU_) : w.heap.size ≤ gb589)) ((hs_ hg (below_size sU_) : w.heap.size ≤ gb589)) ((hl_ hg (kU_ BK580.out))) ((hm_ hg (kU_ BK580.out))) ((hl_ hg (kU_ BK581.out))) ((hm_ hg (kU_ BK581.out))) ?_; clear HO0_0 HO0_1 HO584 HO587 BK580 BK581 HB; intro HO0_0 HO0_1 HO584 HO587 BK580 BK581 HB BK589 GW589 GE589 NB580_589 NB589_580 NB581_589 NB589_581; clear hb hbox hg; obtain ⟨Ao23, co23, eo23⟩ := R_slice HO584.out; subst eo23; have hnb24 := NB589_580.out; have hnc24 := NB580_589.out; have hnb25 := NB589_581.out; have hnc25 := NB581_589.out; have hcz26_0 := bc0_ BK589.out; have hcz26_1 := bc1_ BK589.out; have hfz26_0 := blk_frozen BK589.out 0; have hfz26_1 := blk_frozen BK589.out 1; obtain ⟨Ao27, co27, eo27⟩ := R_slice HO587.out; subst eo27; have hnb28 := NB580_581.out; have hnc28 := NB581_580.out; have hcz29_0 := bc0_ BK580.out; have hcz29_1 := bc1_ BK580.out; have hfz29_0 := blk_frozen BK580.out 0; have hfz29_1 := blk_frozen BK580.out 1) | ((with_reducible refine gate_callee (f := 106) rfl ?_); refine gl_ (some 11) Tryd.func106 #[.agg #[.slice A0_0 l0_0.length c0_0, .slice A0_1 l0_1.length c0_1], .agg #[.slice Ao23 t582.length co23, .slice Ao27 t585.length co27]] ?_; (with_reducible refine (attestorref02_Order.calls k _ _ l0_0 _ _ l0_1 _ _ t582 _ _ t585 t590 _ ?side1 ?side2 ?side3 ?side4 ?side5 ?side6 ?side7 ?side8 A3.out).mono ?_); (case side1 => refine (V_reads' (e := 115) (base := w.heap.size) (ok := fun k_ => (((((((P0_0_ k_ ∨ P0_1_ k_) ∨ w.heap.size ≤ k_) ∧ k_ ≠ gb580) ∧ k_ ≠ gb581) ∧ some k_ ≠ (.slice Ao23 t582.length co23 : Value).ownBlock) ∧ some k_ ≠ (.slice Ao27 t585.length co27 : Value).ownBlock) ∧ k_ ≠ gb589)) (n := l0_0.length) (c := c0_0) ?_).2.2; exact (vL_ (vf_ gb589 HO0_0.out fun _ hk => hk.2))); (case side2 => exact (V_reads' HO0_0.out).2.1); (case side3 => refine (V_reads' (e := 115) (base := w.heap.size) (ok := fun k_ => (((((((P0_0_ k_ ∨ P0_1_ k_) ∨ w.heap.size ≤ k_) ∧ k_ ≠ gb580) ∧ k_ ≠ gb581) ∧ some k_ ≠ (.slice Ao23 t582.length co23 : Value).ownBlock) ∧ some k_ ≠ (.slice Ao27 t585.length co27 : Value).ownBlock) ∧ k_ ≠ gb589)) (n := l0_1.length) (c := c0_1) ?_).2.2; exact (vL_ (vf_ gb589 HO0_1.out fun _ hk => hk.2))); (case side4 => exact (V_reads' HO0_1.out).2.1); (case side5 => refine (R_reads' (e := 115) (base := w.heap.size) (ok := fun k_ => ((w.heap.size ≤ k_) ∧ some k_ ≠ (.slice Ao27 t585.length co27 : Value).ownBlock)) (n := t582.length) (c := co23) ?_).2.2; exact (rL_ (rf_ HO584.out BK589.out))); (case side6 => exact (R_reads' HO584.out).2.1); (case side7 => refine (R_reads' (e := 115) (base := w.heap.size) (ok := fun k_ => ((w.heap.size ≤ k_) ∧ some k_ ≠ (.slice Ao23 t582.length co23 : Value).ownBlock)) (n := t585.length) (c := co27) ?_).2.2; exact (rL_ (rf_ HO587.out BK589.out))); (case side8 => exact (R_reads' HO587.out).2.1); rintro e w30 ⟨rfl, hb⟩; refine ⟨_, rfl, ?_⟩; refine nx8_ (V_below (vL_ (vf_ gb589 HO0_0.out fun _ hk => hk.2)) hb) (V_below (vL_ (vf_ gb589 HO0_1.out fun _ hk => hk.2)) hb) (R_below (rL_ (rf_ HO584.out BK589.out)) hb) (R_below (rL_ (rf_ HO587.out BK589.out)) hb) (blk_below (g := gb580) (o := .cells #[.slice A0_0 l0_0.length c0_0, .slice A0_1 l0_1.length c0_1] 26 (0, 0)) kp_ hb) (blk_below (g := gb581) (o := .cells #[.slice none 0 0, .slice none 0 0] 26 (0, 0)) kp_ hb) (blk_below (g := gb589) (o := .cells #[.slice Ao23 t582.length co23, .slice Ao27 t585.length co27] 26 (0, 0)) kp_ hb) (below_step sU_ hb) ?_; clear HO0_0 HO0_1 HO584 HO587 BK580 BK581 BK589 HB; intro HO0_0 HO0_1 HO584 HO587 BK580 BK581 BK589 HB; clear hb; have hcz31_0 := bc0_ BK580.out; have hcz31_1 := bc1_ BK580.out; have hfz31_0 := blk_frozen BK580.out 0; have hfz31_1 := blk_frozen BK580.out 1; have hcz32_0 := bc0_ BK581.out; have hcz32_1 := bc1_ BK581.out; have hfz32_0 := blk_frozen BK581.out 0; have hfz32_1 := blk_frozen BK581.out 1))
 refine bodyPost_ret (results_cell_row rfl _ _ gb581 26 #[.slice A0_0 l0_0.length c0_0, .slice A0_1 l0_1.length c0_1] (0, 0) _ rfl kp_ Tryd.underlying26 rfl (by kernel_rfl)) rfl ?_
 exact ⟨_, _, eW_, by (with_reducible repeat (first | apply Kd.V_alloc | apply Kd.V_drewN | apply V_drew)); exact V_mono (V_far (p := ⟨gb581, 1, none⟩) (V_far (p := ⟨gb581, 0, none⟩) (V_mono HO0_0.out (fun k_ hk => (⟨hk, hk.1.1.1.2⟩ : _ ∧ k_ ≠ gb581))) (fun _ hk => hk.2) (.slice A0_0 l0_0.length c0_0)) (fun _ hk => hk.2) (.slice A0_1 l0_1.length c0_1)) (fun _ hk => hk.1.1.1.1.1.1), by (with_reducible repeat (first | apply Kd.V_alloc | apply Kd.V_drewN | apply V_drew)); exact V_mono (V_far (p := ⟨gb581, 1, none⟩) (V_far (p := ⟨gb581, 0, none⟩) (V_mono HO0_1.out (fun k_ hk => (⟨hk, hk.1.1.1.2⟩ : _ ∧ k_ ≠ gb581))) (fun _ hk => hk.2) (.slice A0_0 l0_0.length c0_0)) (fun _ hk => hk.2) (.slice A0_1 l0_1.length c0_1)) (fun _ hk => hk.1.1.1.1.1.1), sU_⟩

end Go.Proofs.YtbjeemlbjkmhiaaDoor.Q

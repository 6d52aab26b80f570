-- Written by prx.py (this session's driver of the kit's print) out of the translation. Not trusted: Lean checks it.
import Derived.Test.YtjjjoepnlhpjdaaDoorQ0
import Derived.Test.YtjjjoepnlhpjdaaDoorQ1
namespace Go.Proofs.YtjjjoepnlhpjdaaDoor.Q
open Go.RowKit Go.Proofs.YtjjjoepnlhpjdaaDoorW.PrintWords Go.Proofs.YtjjjoepnlhpjdaaDoorW.PrintLast Go.Proofs.YtjjjoepnlhpjdaaDoorW.PrintMore
attribute [local go_sem] max2_int min2_int max_two min_two max_three min_three max_four min_four   -- for this text's walks alone
set_option linter.unusedVariables false
set_option linter.unusedSimpArgs false

/-! ### ratio_sub: function 78 -/
def ratio_sub.l0 : Nat → List Int → List Int → List Int → Int → Int → Int → Option (List Int)
 | 0, _, _, _, _, _, _ => none
 | k + 1, x0, x1, x5, x6, x13, x14 => if x14 < x13 then (if x14 < (x1.length : Int) then (if 0 ≤ x14 then (if x14 < (x0.length : Int) then ((bits_Sub32.f (rd x0 x14) (rd x1 x14) x6).bind fun bt448 => (if x14 < (x5.length : Int) then (ratio_sub.l0 k x0 x1 (x5.set (x14 : Int).toNat bt448.1) bt448.2 x13 (wrap64 (x14 + 1))) else (none))) else (none)) else (none)) else (if 0 ≤ x14 then (if x14 < (x0.length : Int) then ((bits_Sub32.f (rd x0 x14) 0 x6).bind fun bt452 => (if x14 < (x5.length : Int) then (ratio_sub.l0 k x0 x1 (x5.set (x14 : Int).toNat bt452.1) bt452.2 x13 (wrap64 (x14 + 1))) else (none))) else (none)) else (none))) else ((ratio_trim.f k x5).bind fun t455 => (some t455))
def ratio_sub.f (k : Nat) (l0 : List Int) (l1 : List Int) : Option (List Int) := if 0 ≤ (l0.length : Int) then (if ((l0.length : Int) : Int).toNat ≤ 70368744177664 then (ratio_sub.l0 k l0 l1 (List.replicate ((l0.length : Int) : Int).toNat 0) 0 (l0.length : Int) 0) else (none)) else (none)
set_option maxHeartbeats 8000000 in
set_option maxRecDepth 100000 in
theorem ratio_sub.calls (k : Nat) (A0 : Option Addr) (c0 : Nat) (l0 : List Int) (A1 : Option Addr) (c1 : Nat) (l1 : List Int) (r : List Int) (w : World) (hr0 : Kd.C (Kd.int .u32) w A0 l0.length l0) (hc0 : l0.length ≤ c0) (hr1 : Kd.C (Kd.int .u32) w A1 l1.length l1) (hc1 : l1.length ≤ c1) (h : ratio_sub.f k l0 l1 = some r) :
  Calls Tryd.prog 78 #[.slice A0 l0.length c0, .slice A1 l1.length c1] w fun e w' => ∃ v0_ : Value, e = .returned (v0_) ∧ Kd.V (Kd.int .u32) 44 w' w.heap.size (fun k_ => (w.heap.size ≤ k_)) v0_ r ∧ Below w.heap.size w w' := by
 have HR0 := ak hr0
 have HC0 := ak hc0
 clear hr0 hc0
 have HR1 := ak hr1
 have HC1 := ak hc1
 clear hr1 hc1
 have HB := ak (Below.refl w.heap.size w)
 have H : (if 0 ≤ (l0.length : Int) then (if ((l0.length : Int) : Int).toNat ≤ 70368744177664 then (ratio_sub.l0 k l0 l1 (List.replicate ((l0.length : Int) : Int).toNat 0) 0 (l0.length : Int) 0) else (none)) else (none)) = some r := h
 clear h
 obtain ⟨c3, H⟩ : (0 ≤ (l0.length : Int)) ∧ _ := it_ H
 have c3b0 := eq_true c3
 have c3b1 := decide_eq_true c3
 clear c3
 obtain ⟨c4, H⟩ : (((l0.length : Int) : Int).toNat ≤ 70368744177664) ∧ _ := it_ H
 have c4b0 := eq_true c4
 have c4b1 := decide_eq_true c4
 clear c4
 obtain ⟨y443, hy443⟩ : ∃ y_ : List Int, y_ = (List.replicate ((l0.length : Int) : Int).toNat 0) := ⟨_, rfl⟩
 first | rw [Option.bind_some, ← hy443] at H | rw [← hy443] at H
 have Ny443 := ak hy443
 clear hy443
 have H' := ak H
 clear H
 go_enter Tryd.func78, Tryd.ntmps78
 go_wp2_with (first | ((with_reducible refine gate_dst (N := 11) rfl ?_); refine Kd.R_make (Kd.int .u32) _ 44 rfl (N := 11) rfl 23 _ _ rfl (l0.length : Int) ?hx ?hy Tryd.underlying23 (.int .u32 0) 4 info44 rfl (by decide) (by omega) 0 (ok := fun _ => True) (okp := fun _ => True) rfl (fun _ hk => hk) trivial od_ (Nat.le_trans (Nat.mul_le_mul_right _ (od_ : (l0.length : Int).toNat ≤ 70368744177664)) (by omega)) (Below.refl _ _) (Nat.le_refl _) ?_; (case hx => first | rfl); (case hy => first | rfl); intro v444 w5 ho6 hb hg_ hnew_; clear hg_ hnew_; (first | rw [← Ny443.out] at ho6 | (simp only [Int.reduceToNat] at ho6; rw [← Ny443.out] at ho6)); refine nx2_ (Kd.R_lower (Kd.R_newM (M := fun k_ => (w.heap.size ≤ k_)) ho6 (below_size (bU_ HB.out)) (fun k_ h_ => h_)) (below_size (bU_ HB.out))) (below_step (bU_ HB.out) hb) ?_; clear HB; intro HO445 HB; clear hb ho6))
 go_loopg [6, 14] k (fun kq v6 v14 w' => ∃ (x5_1 : List Int) (x6_1 : Int) (x14_1 : Int), v6 = .int .u32 x6_1 ∧ v14 = .int .i64 x14_1 ∧ Aside0 (ratio_sub.l0 kq l0 l1 x5_1 x6_1 (l0.length : Int) x14_1 = some r) ∧ Aside0 (kq ≤ k) ∧ Aside0 (Kd.R (Kd.int .u32) 44 w' w.heap.size (fun k_ => (w.heap.size ≤ k_)) v444 x5_1) ∧ Aside0 (Below w.heap.size w w'))
 case atStart => exact ⟨(y443), (0), (0), gb_, gb_, H', ⟨Nat.le_refl _⟩, ⟨Kd.R_mono (rU_ HO445.out) (fun _ hk => hk.1)⟩, ⟨bU_ HB.out⟩⟩
 case round =>
  clear H'
  (try clear c1); (try clear p2); (try clear c3); (try clear c3b0); (try clear c3b1); (try clear c4); (try clear c4b0); (try clear c4b1)
  obtain ⟨x5_1, x6_1, x14_1, rfl, rfl, HA, HK1, HO_5, HB⟩ := hrel
  cases gk with
  | zero => exact absurd HA.out (by simp [ratio_sub.l0])
  | succ k1 =>
   have H := HA.out
   clear HA
   simp only [ratio_sub.l0] at H
   by_cases c7 : x14_1 < (l0.length : Int)
   ·rw [if_pos c7] at H
    have c7b0 := decide_eq_true c7
    clear c7
    by_cases c8 : x14_1 < (l1.length : Int)
    ·rw [if_pos c8] at H
     have c8b0 := decide_eq_true c8
     clear c8
     obtain ⟨c9, H⟩ : (0 ≤ x14_1) ∧ _ := it_ H
     have c9b0 := decide_eq_true c9
     clear c9
     obtain ⟨c10, H⟩ : (x14_1 < (l0.length : Int)) ∧ _ := it_ H
     have c10b0 := decide_eq_true c10
     clear c10
     revert H
     refine bd2_ fun t448 t449 A11 H => ?_
     try dsimp only at H
     obtain ⟨c12, H⟩ : (x14_1 < (x5_1.length : Int)) ∧ _ := it_ H
     have c12b0 := decide_eq_true c12
     clear c12
     obtain ⟨y450, hy450⟩ : ∃ y_ : List Int, y_ = (x5_1.set (x14_1 : Int).toNat t448) := ⟨_, rfl⟩
     first | rw [Option.bind_some, ← hy450] at H | rw [← hy450] at H
     have Ny450 := ak hy450
     clear hy450
     have H' := ak H
     clear H
     have p446 : 0 ≤ (x14_1 : Int) := od_
     have q446 : x14_1 < (l1.length : Int) := od_
     obtain ⟨ad446, e446, hx446_0⟩ := Kd.at_int HR1.out x14_1 p446 q446
     cases e446
     replace hx446_0 := (HB.out.cell (World.block_lt_of_cell? w _ hx446_0)).trans hx446_0
     replace p446 := eq_true p446
     replace q446 := eq_true q446
     have p447 : 0 ≤ (x14_1 : Int) := od_
     have q447 : x14_1 < (l0.length : Int) := od_
     obtain ⟨ad447, e447, hx447_0⟩ := Kd.at_int HR0.out x14_1 p447 q447
     cases e447
     replace hx447_0 := (HB.out.cell (World.block_lt_of_cell? w _ hx447_0)).trans hx447_0
     replace p447 := eq_true p447
     replace q447 := eq_true q447
     go_wp2_with (first | ((with_reducible refine gate_callee (f := 92) rfl ?_); refine gl_ (some 34) Tryd.func92 #[.int .u32 (rd l0 x14_1), .int .u32 (rd l1 x14_1), .int .u32 x6_1] ?_; (with_reducible refine (bits_Sub32.calls (rd l0 x14_1) (rd l1 x14_1) x6_1 t448 t449 _ A11.out).mono ?_); rintro e w' ⟨rfl, ⟨nd, rfl⟩⟩; refine ⟨_, rfl, ?_⟩; (try (rw [drewN_self wr]; generalize hq_ : World.drewN wr _ = wr; have n0_ : Aside0 (Kd.R (Kd.int .u32) 44 wr w.heap.size (fun k_ => (w.heap.size ≤ k_)) v444 x5_1) := ⟨by rw [← hq_]; exact (rU_ HO_5.out)⟩; have n1_ : Aside0 (Below w.heap.size w wr) := ⟨by rw [← hq_]; exact (bU_ HB.out)⟩; clear HO_5 HB hq_; have HO_5 := n0_; have HB := n1_; clear n0_ n1_)); have p13 : 0 ≤ (x14_1 : Int) := od_; have q13 : (x14_1 : Int) < ((x5_1.length : Int) : Int) := od_; obtain ⟨go13, co13, eo13, gb13, gl13, cl13, HG13⟩ := Kd.R_form HO_5.out (by omega); (first | cases eo13 | (injection eo13 with ea_ en_ ec_; (first | subst ea_ | (injection ea_ with ea_; subst ea_)); subst ec_; clear en_)); have GB13 := ak gb13; have GG13 := ak HG13; clear gb13 gl13 HG13; obtain ⟨hx13_0, hf13_0⟩ := Kd.R_celln 0 HO_5.out (x14_1 : Int) p13 q13; replace p13 := eq_true p13; replace q13 := eq_true q13; obtain ⟨hy14_, hz14_⟩ := Kd.R_celln 0 HO_5.out (x14_1 : Int) od_ od_; have HP14 := Kd.R_putg HO_5.out (x14_1 : Int) t448) | ((with_reducible refine gate_store (t := 44) (p := 37) rfl ?_); refine store_event (t := 44) (p := 37) (v := ?vo_w15) (w1 := (wr.setCell ⟨go13, (x14_1 : Int).toNat, none⟩ (.int .u32 t448))) ?hg ?ho ?hn ?hr ?_; (case ho => rfl); (case hg => rfl); (case hn => rfl); (case hr => first | (go_simp; done) | (go_simp; rfl)); intro w15 hw; have hg : wr.grownBy w15 (some go13) := (by rw [hw]; exact HP14.2); have hp_ : Kd.R (Kd.int .u32) 44 w15 w.heap.size (fun k_ => (w.heap.size ≤ k_)) (.slice (some ⟨go13, 0, none⟩) x5_1.length co13) y450 := (by rw [hw, Ny450.out]; exact HP14.1); clear HP14; refine nx2_ (hp_) ((by rw [hw]; exact below_set (HB.out) GB13.out : Below w.heap.size w w15)) ?_; clear HO_5 HB; intro HO_5 HB; clear hg hw hp_))
     go_roundg k1
     case measure => have := HK1.out; omega
     case rel => exact ⟨(y450), (t449), (wrap64 (x14_1 + 1)), gb_, gb_, H', ⟨by have := HK1.out; omega⟩, ⟨rU_ HO_5.out⟩, ⟨bU_ HB.out⟩⟩
    ·rw [if_neg c8] at H
     have c8b0 := decide_eq_false c8
     clear c8
     obtain ⟨c16, H⟩ : (0 ≤ x14_1) ∧ _ := it_ H
     have c16b0 := decide_eq_true c16
     clear c16
     obtain ⟨c17, H⟩ : (x14_1 < (l0.length : Int)) ∧ _ := it_ H
     have c17b0 := decide_eq_true c17
     clear c17
     revert H
     refine bd2_ fun t452 t453 A18 H => ?_
     try dsimp only at H
     obtain ⟨c19, H⟩ : (x14_1 < (x5_1.length : Int)) ∧ _ := it_ H
     have c19b0 := decide_eq_true c19
     clear c19
     obtain ⟨y454, hy454⟩ : ∃ y_ : List Int, y_ = (x5_1.set (x14_1 : Int).toNat t452) := ⟨_, rfl⟩
     first | rw [Option.bind_some, ← hy454] at H | rw [← hy454] at H
     have Ny454 := ak hy454
     clear hy454
     have H' := ak H
     clear H
     have p451 : 0 ≤ (x14_1 : Int) := od_
     have q451 : x14_1 < (l0.length : Int) := od_
     obtain ⟨ad451, e451, hx451_0⟩ := Kd.at_int HR0.out x14_1 p451 q451
     cases e451
     replace hx451_0 := (HB.out.cell (World.block_lt_of_cell? w _ hx451_0)).trans hx451_0
     replace p451 := eq_true p451
     replace q451 := eq_true q451
     go_wp2_with (first | ((with_reducible refine gate_callee (f := 92) rfl ?_); refine gl_ (some 34) Tryd.func92 #[.int .u32 (rd l0 x14_1), .int .u32 0, .int .u32 x6_1] ?_; (with_reducible refine (bits_Sub32.calls (rd l0 x14_1) 0 x6_1 t452 t453 _ A18.out).mono ?_); rintro e w' ⟨rfl, ⟨nd, rfl⟩⟩; refine ⟨_, rfl, ?_⟩; (try (rw [drewN_self wr]; generalize hq_ : World.drewN wr _ = wr; have n0_ : Aside0 (Kd.R (Kd.int .u32) 44 wr w.heap.size (fun k_ => (w.heap.size ≤ k_)) v444 x5_1) := ⟨by rw [← hq_]; exact (rU_ HO_5.out)⟩; have n1_ : Aside0 (Below w.heap.size w wr) := ⟨by rw [← hq_]; exact (bU_ HB.out)⟩; clear HO_5 HB hq_; have HO_5 := n0_; have HB := n1_; clear n0_ n1_)); have p20 : 0 ≤ (x14_1 : Int) := od_; have q20 : (x14_1 : Int) < ((x5_1.length : Int) : Int) := od_; obtain ⟨go20, co20, eo20, gb20, gl20, cl20, HG20⟩ := Kd.R_form HO_5.out (by omega); (first | cases eo20 | (injection eo20 with ea_ en_ ec_; (first | subst ea_ | (injection ea_ with ea_; subst ea_)); subst ec_; clear en_)); have GB20 := ak gb20; have GG20 := ak HG20; clear gb20 gl20 HG20; obtain ⟨hx20_0, hf20_0⟩ := Kd.R_celln 0 HO_5.out (x14_1 : Int) p20 q20; replace p20 := eq_true p20; replace q20 := eq_true q20; obtain ⟨hy21_, hz21_⟩ := Kd.R_celln 0 HO_5.out (x14_1 : Int) od_ od_; have HP21 := Kd.R_putg HO_5.out (x14_1 : Int) t452) | ((with_reducible refine gate_store (t := 44) (p := 37) rfl ?_); refine store_event (t := 44) (p := 37) (v := ?vo_w22) (w1 := (wr.setCell ⟨go20, (x14_1 : Int).toNat, none⟩ (.int .u32 t452))) ?hg ?ho ?hn ?hr ?_; (case ho => rfl); (case hg => rfl); (case hn => rfl); (case hr => first | (go_simp; done) | (go_simp; rfl)); intro w22 hw; have hg : wr.grownBy w22 (some go20) := (by rw [hw]; exact HP21.2); have hp_ : Kd.R (Kd.int .u32) 44 w22 w.heap.size (fun k_ => (w.heap.size ≤ k_)) (.slice (some ⟨go20, 0, none⟩) x5_1.length co20) y454 := (by rw [hw, Ny454.out]; exact HP21.1); clear HP21; refine nx2_ (hp_) ((by rw [hw]; exact below_set (HB.out) GB20.out : Below w.heap.size w w22)) ?_; clear HO_5 HB; intro HO_5 HB; clear hg hw hp_))
     go_roundg k1
     case measure => have := HK1.out; omega
     case rel => exact ⟨(y454), (t453), (wrap64 (x14_1 + 1)), gb_, gb_, H', ⟨by have := HK1.out; omega⟩, ⟨rU_ HO_5.out⟩, ⟨bU_ HB.out⟩⟩
   ·rw [if_neg c7] at H
    have c7b0 := decide_eq_false c7
    clear c7
    revert H
    refine bd_ fun t455 A23 H => ?_
    obtain rfl := Option.some.inj H
    obtain ⟨Ao24, co24, eo24⟩ := Kd.R_slice HO_5.out
    subst eo24
    go_wp2_with (first | ((with_reducible refine gate_callee (f := 68) rfl ?_); refine gl_ (some 40) Tryd.func68 #[.slice Ao24 x5_1.length co24] ?_; (with_reducible refine (ratio_trim.calls k1 (fun k_ => some k_ = (.slice Ao24 x5_1.length co24 : Value).ownBlock) _ _ x5_1 t455 _ ?side1 A23.out).mono ?_); (case side1 => exact Kd.R_V (Kd.R_tight rfl (HO_5.out))); rintro e w25 ⟨v456, rfl, ho0, hb⟩; refine ⟨_, rfl, ?_⟩; refine nx3_ (Kd.R_below (rU_ HO_5.out) hb) (Kd.V_lower (Kd.V_mono (ok' := fun k_ => (w.heap.size ≤ k_)) ho0 (fun k_ hk_ => Or.elim hk_ (fun hs_ => ((HO_5.out).1 k_ hs_.symm)) (fun hn_ => (Nat.le_trans (below_size (bU_ HB.out)) hn_)))) (below_size (bU_ HB.out))) (below_step (bU_ HB.out) hb) ?_; clear HO_5 HB; intro HO_5 HO457 HB; clear hb ho0))
    go_ret
    exact ⟨_, by first | rfl | (simp [errW_none, errW_some] <;> rfl) | (simp [*, errW_none, errW_some] <;> rfl), by (with_reducible repeat (first | apply Kd.V_alloc | apply Kd.V_drewN | apply Kd.V_drew)); exact HO457.out, bU_ HB.out⟩

/-! ### ratio_Diff: function 36 -/
def ratio_Diff.j0 : Nat → List Int → List Int → Bool → Option (List Int × Int)
 | 0, _, _, _ => none
 | k + 1, x0, x1, x6 => if x6 = true then (some (([] : List Int), 1)) else ((ratio_compare.f k x0 x1).bind fun t460 => (if t460 < 0 then (some (([] : List Int), 2)) else ((ratio_sub.f k x0 x1).bind fun t461 => (some (t461, 0)))))
def ratio_Diff.f (k : Nat) (l0 : List Int) (l1 : List Int) : Option (List Int × Int) := (ratio_ValidNat.f k l0).bind fun t458 => (if t458 = true then ((ratio_ValidNat.f k l1).bind fun t459 => (ratio_Diff.j0 k l0 l1 (!t459))) else (ratio_Diff.j0 k l0 l1 true))
set_option maxHeartbeats 8000000 in
set_option maxRecDepth 100000 in
theorem ratio_Diff.calls (k : Nat) (A0 : Option Addr) (c0 : Nat) (l0 : List Int) (A1 : Option Addr) (c1 : Nat) (l1 : List Int) (r1 : List Int) (r2 : Int) (w : World) (hr0 : Kd.C (Kd.int .u32) w A0 l0.length l0) (hc0 : l0.length ≤ c0) (hr1 : Kd.C (Kd.int .u32) w A1 l1.length l1) (hc1 : l1.length ≤ c1) (h : ratio_Diff.f k l0 l1 = some (r1, r2)) :
  Calls Tryd.prog 36 #[.slice A0 l0.length c0, .slice A1 l1.length c1] w fun e w' => ∃ v0_ : Value, e = .returned (.tuple #[v0_, .int .i64 r2]) ∧ Kd.V (Kd.int .u32) 44 w' w.heap.size (fun k_ => (w.heap.size ≤ k_)) v0_ r1 ∧ Below w.heap.size w w' := by
 have HR0 := ak hr0
 have HC0 := ak hc0
 clear hr0 hc0
 have HR1 := ak hr1
 have HC1 := ak hc1
 clear hr1 hc1
 have HB := ak (Below.refl w.heap.size w)
 have H : ((ratio_ValidNat.f k l0).bind fun t458 => (if t458 = true then ((ratio_ValidNat.f k l1).bind fun t459 => (ratio_Diff.j0 k l0 l1 (!t459))) else (ratio_Diff.j0 k l0 l1 true))) = some (r1, r2) := h
 clear h
 have HC3 := ak H
 clear H
 go_enter Tryd.func36, Tryd.ntmps36
 go_upto_region 1 with (fail)
 go_cut [6] (fun v6 wc => ∃ (kq : Nat) (x6_2 : Bool), v6 = .bool x6_2 ∧ Aside0 (ratio_Diff.j0 kq l0 l1 x6_2 = some (r1, r2)) ∧ Aside0 (kq ≤ k) ∧ Aside0 (Below w.heap.size w wc))
 case first =>
  have H := HC3.out
  clear HC3
  revert H
  refine bd_ fun t458 A4 H => ?_
  by_cases c5 : t458 = true
  ·subst c5
   rw [if_pos rfl] at H
   revert H
   refine bd_ fun t459 A6 H => ?_
   have H' := ak H
   clear H
   go_wp2_with (first | ((with_reducible refine gate_callee (f := 27) rfl ?_); refine gl_ (some 8) Tryd.func27 #[.slice A0 l0.length c0] ?_; (with_reducible refine (ratio_ValidNat.calls k _ _ l0 true _ ?side1 ?side2 A4.out).mono ?_); (case side1 => exact cU_ (Kd.C_below HR0.out HB.out)); (case side2 => exact HC0.out); rintro e w7 ⟨rfl, hb⟩; refine ⟨_, rfl, ?_⟩; refine nx1_ (below_step (bU_ HB.out) hb) ?_; clear HB; intro HB; clear hb) | (go_at_call 27; (with_reducible refine (ratio_ValidNat.calls k _ _ l1 t459 _ ?side1 ?side2 A6.out).mono ?_); (case side1 => exact cU_ (Kd.C_below HR1.out HB.out)); (case side2 => exact HC1.out); rintro e w8 ⟨rfl, hb⟩; refine nx1_ (below_step (bU_ HB.out) hb) ?_; clear HB; intro HB; clear hb))
   go_meet
   case rel => exact ⟨_, (!t459), gb_, H', ⟨by first | omega | exact Nat.le_refl _⟩, ⟨bU_ HB.out⟩⟩
  ·replace c5 := Bool.eq_false_iff.mpr c5
   subst c5
   rw [if_neg (show ¬ (false = true) by decide)] at H
   have H' := ak H
   clear H
   go_wp2_with (first | ((with_reducible refine gate_callee (f := 27) rfl ?_); refine gl_ (some 8) Tryd.func27 #[.slice A0 l0.length c0] ?_; (with_reducible refine (ratio_ValidNat.calls k _ _ l0 false _ ?side1 ?side2 A4.out).mono ?_); (case side1 => exact cU_ (Kd.C_below HR0.out HB.out)); (case side2 => exact HC0.out); rintro e w9 ⟨rfl, hb⟩; refine ⟨_, rfl, ?_⟩; refine nx1_ (below_step (bU_ HB.out) hb) ?_; clear HB; intro HB; clear hb))
   go_meet
   case rel => exact ⟨_, (true), gb_, H', ⟨by first | omega | exact Nat.le_refl _⟩, ⟨bU_ HB.out⟩⟩
 case rest =>
  clear HC3
  (try clear c1); (try clear c2); (try clear p2); (try clear c3); (try clear c5)
  obtain ⟨kq, x6_2, rfl, HA, HJ2, HB⟩ := hcut
  cases kq with
  | zero => exact absurd HA.out (by simp [ratio_Diff.j0])
  | succ kj2 =>
   have H := HA.out
   clear HA
   simp only [ratio_Diff.j0] at H
   by_cases c10 : x6_2 = true
   ·subst c10
    rw [if_pos rfl] at H
    simp only [Option.some.injEq, Prod.mk.injEq] at H
    obtain ⟨rfl, rfl⟩ := H
    go_wp2
    go_ret2
    exact ⟨_, by first | rfl | (simp [errW_none, errW_some] <;> rfl) | (simp [*, errW_none, errW_some] <;> rfl), Kd.V_nil _ _ _ _ _, bU_ HB.out⟩
   ·replace c10 := Bool.eq_false_iff.mpr c10
    subst c10
    rw [if_neg (show ¬ (false = true) by decide)] at H
    revert H
    refine bd_ fun t460 A11 H => ?_
    by_cases c12 : t460 < 0
    ·rw [if_pos c12] at H
     have c12b0 := decide_eq_true c12
     clear c12
     simp only [Option.some.injEq, Prod.mk.injEq] at H
     obtain ⟨rfl, rfl⟩ := H
     go_wp2_with (first | ((with_reducible refine gate_callee (f := 74) rfl ?_); refine gl_ (some 18) Tryd.func74 #[.slice A0 l0.length c0, .slice A1 l1.length c1] ?_; (with_reducible refine (ratio_compare.calls kj2 _ _ l0 _ _ l1 t460 _ ?side1 ?side2 ?side3 ?side4 A11.out).mono ?_); (case side1 => exact cU_ (Kd.C_below HR0.out HB.out)); (case side2 => exact HC0.out); (case side3 => exact cU_ (Kd.C_below HR1.out HB.out)); (case side4 => exact HC1.out); rintro e w' ⟨rfl, ⟨nd, rfl⟩⟩; refine ⟨_, rfl, ?_⟩))
     go_ret2
     exact ⟨_, by first | rfl | (simp [errW_none, errW_some] <;> rfl) | (simp [*, errW_none, errW_some] <;> rfl), Kd.V_nil _ _ _ _ _, bU_ HB.out⟩
    ·rw [if_neg c12] at H
     have c12b0 := decide_eq_false c12
     clear c12
     revert H
     refine bd_ fun t461 A13 H => ?_
     simp only [Option.some.injEq, Prod.mk.injEq] at H
     obtain ⟨rfl, rfl⟩ := H
     go_wp2_with (first | ((with_reducible refine gate_callee (f := 74) rfl ?_); refine gl_ (some 18) Tryd.func74 #[.slice A0 l0.length c0, .slice A1 l1.length c1] ?_; (with_reducible refine (ratio_compare.calls kj2 _ _ l0 _ _ l1 t460 _ ?side1 ?side2 ?side3 ?side4 A11.out).mono ?_); (case side1 => exact cU_ (Kd.C_below HR0.out HB.out)); (case side2 => exact HC0.out); (case side3 => exact cU_ (Kd.C_below HR1.out HB.out)); (case side4 => exact HC1.out); rintro e w' ⟨rfl, ⟨nd, rfl⟩⟩; refine ⟨_, rfl, ?_⟩) | ((with_reducible refine gate_callee (f := 78) rfl ?_); refine gl_ (some 22) Tryd.func78 #[.slice A0 l0.length c0, .slice A1 l1.length c1] ?_; (with_reducible refine (ratio_sub.calls kj2 _ _ l0 _ _ l1 t461 _ ?side1 ?side2 ?side3 ?side4 A13.out).mono ?_); (case side1 => exact (Kd.C_below HR0.out (bU_ HB.out))); (case side2 => exact HC0.out); (case side3 => exact (Kd.C_below HR1.out (bU_ HB.out))); (case side4 => exact HC1.out); rintro e w14 ⟨v462, rfl, ho0, hb⟩; refine ⟨_, rfl, ?_⟩; refine nx2_ (Kd.V_lower (Kd.V_mono (ok' := fun k_ => (w.heap.size ≤ k_)) ho0 (fun k_ hk_ => (Nat.le_trans (below_size (bU_ HB.out)) hk_))) (below_size (bU_ HB.out))) (below_step (bU_ HB.out) hb) ?_; clear HB; intro HO463 HB; clear hb ho0))
     go_ret2
     exact ⟨_, by first | rfl | (simp [errW_none, errW_some] <;> rfl) | (simp [*, errW_none, errW_some] <;> rfl), by (with_reducible repeat (first | apply Kd.V_alloc | apply Kd.V_drewN | apply Kd.V_drew)); exact HO463.out, bU_ HB.out⟩

end Go.Proofs.YtjjjoepnlhpjdaaDoor.Q

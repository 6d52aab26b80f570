import Derived.Test.YthinfmfjpaikiaaDoorQ0
import Derived.Test.YthinfmfjpaikiaaDoorQ2
import Derived.Test.YthinfmfjpaikiaaDoorQ3
namespace Go.Proofs.YthinfmfjpaikiaaDoor.Q
open Go.RowKit Go.Proofs.YthinfmfjpaikiaaDoorW.PrintWords Go.Proofs.YthinfmfjpaikiaaDoorW.PrintLast Go.Proofs.YthinfmfjpaikiaaDoorW.PrintMore
open Kd (R_below R_mono R_lower R_lt R_slice R_reads' R_make C_below fresh' R_drew)
attribute [local go_sem] max2_int min2_int max_two min_two max_three min_three max_four min_four   -- for this text's walks alone
set_option linter.unusedVariables false
set_option linter.unusedSimpArgs false

def code_Points.l0 : Nat → List Int → Int → Int → Int → Int → Int → Int → Int → Option (List Int)
 | 0, _, _, _, _, _, _, _, _ => none
 | k + 1, x3, x4, x5, x18, x19, x525000, x525001, x525002 => if x19 < x18 then (if 0 ≤ x19 then (if x19 < (x3.length : Int) then ((field_Mul.f x525000 x4 x5).bind fun t531 => (code_Points.l0 k (x3.set (x19 : Int).toNat x4) t531 x5 x18 (wrap64 (x19 + 1)) x525000 x525001 x525002)) else (none)) else (none)) else (some x3)
def code_Points.f (k : Nat) (a0_0 : Int) (a0_1 : Int) (a0_2 : Int) : Option (List Int) := (code_Size.f a0_0 a0_1 a0_2).bind fun t525 => (if 0 ≤ t525 then (if (t525 : Int).toNat ≤ 35184372088832 then ((some (List.replicate (t525 : Int).toNat 0 : List Int)).bind fun y526 => ((field_Root.f k a0_0 a0_1).bind fun t529 => (code_Points.l0 k y526 a0_2 t529 (y526.length : Int) 0 a0_0 a0_1 a0_2))) else (none)) else (none))
def code_Points.T2 : Bool × List (List Nat × List Nat) := (true, [([], []), ([0], [0]), ([], []), ([2], [2]), ([], []), ([4], [4]), ([3, 5], [3, 5]), ([1, 6, 0, 1], [1]), ([6, 7, 0, 1, 2, 3, 4, 5, 6, 7], [6])])
def code_Points.B2 : List Nat := [0, 1, 0, 4, 0, 16, 60, 127, 255]
theorem code_Points.tab2 : rtab .any (opsOf Tryd.f61 2) = code_Points.T2 := by kernel_rfl
theorem code_Points.bits2 : waitsOk code_Points.T2.2 code_Points.B2 = true := by kernel_rfl
set_option maxHeartbeats 8000000 in
set_option maxRecDepth 100000 in
theorem code_Points.calls (k : Nat) (a0_0 : Int) (a0_1 : Int) (a0_2 : Int) (r : List Int) (w : World) (hG : Fld w) (h : code_Points.f k a0_0 a0_1 a0_2 = some r) :
  Calls Tryd.prog 61 #[.agg #[.int .i64 a0_0, .int .i64 a0_1, .int .u64 a0_2]] w fun e w' => ∃ v0_ : Value, e = .returned (v0_) ∧ Kd.R (Kd.int .u64) 22 w' w.heap.size (fun _ => True) v0_ r ∧ Below w.heap.size w w' := by
 have hu24 := Tryd.underlying24
 have HG := ak hG
 clear hG
 have HB := ak (Below.refl w.heap.size w)
 have H := h
 clear h
 unfold code_Points.f at H
 revert H
 refine bd_ fun t525 A2 H => ?_
 obtain ⟨c3, H⟩ : (0 ≤ t525) ∧ _ := it_ H
 have c3b0 := eq_true c3
 have c3b1 := decide_eq_true c3
 clear c3
 obtain ⟨c4, H⟩ : ((t525 : Int).toNat ≤ 35184372088832) ∧ _ := it_ H
 have c4b0 := eq_true c4
 have c4b1 := decide_eq_true c4
 clear c4
 obtain ⟨y526, hy526⟩ : ∃ y_ : List Int, y_ = (List.replicate (t525 : Int).toNat 0) := ⟨_, rfl⟩
 first | rw [Option.bind_some, ← hy526] at H | rw [← hy526] at H
 have Ny526 := ak hy526
 clear hy526
 revert H
 refine bd_ fun t529 A5 H => ?_
 have H' := ak H
 clear H
 go_enter Tryd.func61, Tryd.ntmps61
 try go_wp2_with (first | ((with_reducible refine gate_dst (N := 1) rfl ?_); refine bx_ 1 24 #[.int .i64 a0_0, .int .i64 a0_1, .int .u64 a0_2] ?_; intro gb524 hg w6 hbox hb; refine nx4_ (below_step (bU_ HB.out) hb) (hbox) ((hs_ hg (below_size (bU_ HB.out)))) ((hs_ hg (below_size (bU_ HB.out)))) ?_; clear HB; intro HB BK524 GW524 GE524; clear hb hbox hg; have hcz7_0 := bc0_ BK524.out; have hcz7_1 := bc1_ BK524.out; have hcz7_2 := bc2_ BK524.out; have hfz7_0 := blk_frozen BK524.out 0; have hfz7_1 := blk_frozen BK524.out 1; have hfz7_2 := blk_frozen BK524.out 2) | ((with_reducible refine gate_callee (f := 33) rfl ?_); refine gl_ (some 8) Tryd.func33 #[.agg #[.int .i64 a0_0, .int .i64 a0_1, .int .u64 a0_2]] ?_; (with_reducible refine (code_Size.calls a0_0 a0_1 a0_2 t525 _ ?side1 A2.out).mono ?_); (case side1 => repeat (first | with_reducible exact HG.out | with_reducible exact (Fld.below HG.out HB.out) | exact (Fld.below HG.out sU_) | (with_reducible refine Fld.alloc ?_ _) | (with_reducible refine Fld.drewN ?_ _) | (with_reducible refine Fld.drew ?_))); rintro e w8 ⟨rfl, hb⟩; refine ⟨_, rfl, ?_⟩; refine nx2_ (blk_below (kU_ BK524.out) hb) (below_step sU_ hb) ?_; clear BK524 HB; intro BK524 HB; clear hb) | ((with_reducible refine gate_dst (N := 9) rfl ?_); refine R_make (Kd.int .u64) _ 22 rfl (N := 9) rfl 33 _ _ rfl t525 ?hx ?hy Tryd.underlying33 (.int .u64 0) 8 info22 rfl (by decide) (by omega) 0 (ok := fun _ => True) (okp := fun _ => True) rfl (fun _ hk => hk) trivial od_ (Nat.le_trans (Nat.mul_le_mul_right _ (od_ : t525.toNat ≤ 35184372088832)) (by omega)) (Below.refl _ _) (Nat.le_refl _) ?_; (case hx => first | rfl); (case hy => first | rfl); intro v527 w9 ho10 hb hg_ hnew_; clear hg_ hnew_; (first | rw [← Ny526.out] at ho10 | (simp only [Int.reduceToNat] at ho10; rw [← Ny526.out] at ho10)); refine nx3_ (R_lower ho10 (below_size sU_)) (blk_below (kU_ BK524.out) hb) (below_step sU_ hb) ?_; clear BK524 HB; intro HO528 BK524 HB; clear hb ho10))
 refine nx3_ (R_drew HO528.out) (blk_drew BK524.out) (below_drew1 HB.out) ?_
 clear HO528 BK524 HB
 intro HO528 BK524 HB
 refine start_ (n := 9) (S := fun w' => w'.cell? ⟨gb524, 0, none⟩ = some (.int .i64 a0_0) ∧ w'.cell? ⟨gb524, 1, none⟩ = some (.int .i64 a0_1) ∧ w'.cell? ⟨gb524, 2, none⟩ = some (.int .u64 a0_2)) (ds := []) (bv 9 0) (by kernel_rfl) rfl rfl ⟨bc0_ BK524.out, bc1_ BK524.out, bc2_ BK524.out⟩ (fun hHeld => ?_); refine with_tabW code_Points.tab2 code_Points.bits2 (fun HT_ HW_ => ?_)
 generalize w9.drew = w11 at HO528 BK524 HB hHeld ⊢
 refine pq_ 0 10 9 1 HT_.out ?_
 refine pq_ 2 12 9 5 HT_.out ?_
 refine pq_ 4 14 9 21 HT_.out ?_
 refine tq_ 1 11 9 23 HT_.out HW_.out hHeld ?_
 refine tq_ 3 13 9 31 HT_.out HW_.out hHeld ?_
 refine tq_ 5 15 9 63 HT_.out HW_.out hHeld ?_
 refine oq_ 6 16 9 127 HT_.out fun K hK => ?_
 refine gs_ Tryd.func60 #[.int .i64 a0_0, .int .i64 a0_1] ?_
 with_reducible refine (field_Root.calls k a0_0 a0_1 t529 _ ?side1 A5.out).mono ?_
 (case side1 => repeat (first | with_reducible exact HG.out | with_reducible exact (Fld.below HG.out HB.out) | exact (Fld.below HG.out sU_) | (with_reducible refine Fld.alloc ?_ _) | (with_reducible refine Fld.drewN ?_ _) | (with_reducible refine Fld.drew ?_)))
 rintro e w12 ⟨rfl, hb⟩
 refine ⟨_, rfl, ?_⟩
 refine nx3_ (R_below (rU_ HO528.out) hb) (blk_below (kU_ BK524.out) hb) (below_step sU_ hb) ?_
 clear HO528 BK524 HB
 intro HO528 BK524 HB
 (try clear hb)
 (try clear hb2)
 (try clear hk)
 (try clear hi)
 refine hK.out _ _ ⟨bc0_ BK524.out, bc1_ BK524.out, bc2_ BK524.out⟩ (fun hHeld => ?_)
 clear hK K
 refine norm_ (a' := ?_) ?_ ?_
 rotate_left
 ·show Act.put _ (some 16) _ = _
  simp only [Act.put, s1_, s2_, s3_, i64_w, i32_w]
  rfl
 refine pq_ 7 4 9 255 HT_.out ?_
 refine pq_ 8 5 9 511 HT_.out ?_
 refine done_ (done_of HT_.out (by kernel_rfl)) ?_
 obtain ⟨Ao13, co13, eo13⟩ := R_slice HO528.out
 subst eo13
 try go_wp2
 go_loopg [4, 19] k (fun kq v4 v19 w' => ∃ (x3_1 : List Int) (x4_1 : Int) (x19_1 : Int), v4 = .int .u64 x4_1 ∧ v19 = .int .i64 x19_1 ∧ Aside0 (code_Points.l0 kq x3_1 x4_1 t529 (y526.length : Int) x19_1 a0_0 a0_1 a0_2 = some r) ∧ Aside0 (kq ≤ k) ∧ Aside0 (Kd.R (Kd.int .u64) 22 w' w.heap.size (fun _ => True) (.slice Ao13 y526.length co13) x3_1) ∧ Aside0 (w'.heap[gb524]? = some (.cells #[.int .i64 a0_0, .int .i64 a0_1, .int .u64 a0_2] 24 (0, 0))) ∧ Aside0 (Below w.heap.size w w'))
 case atStart => exact ⟨(y526), (a0_2), (0), gb_, gb_, H', ⟨Nat.le_refl _⟩, ⟨rU_ HO528.out⟩, ⟨by (with_reducible repeat (first | refine blk_drewN ?_ _ | refine blk_drew ?_ | refine blk_alloc ?_ _)); exact BK524.out⟩, ⟨sU_⟩⟩
 case round =>
  clear H'
  (try clear p2); (try clear c3); (try clear c3b0); (try clear c3b1); (try clear c4); (try clear c4b0); (try clear c4b1); (try clear c6); (try clear hcz7_0); (try clear hcz7_1); (try clear hcz7_2); (try clear hfz7_0); (try clear hfz7_1); (try clear hfz7_2)
  obtain ⟨x3_1, x4_1, x19_1, rfl, rfl, HA, HK1, HO_3, BK524, HB⟩ := hrel
  have hl3_1 := (R_reads' HO_3.out).1
  rw [hl3_1] at HO_3
  (try simp only [hl3_1])
  (try simp only [hl3_1] at BK524)
  cases gk with
  | zero => exact absurd HA.out (by simp [code_Points.l0])
  | succ k1 =>
   have H := HA.out
   clear HA
   simp only [code_Points.l0] at H
   by_cases c14 : x19_1 < (y526.length : Int)
   ·rw [if_pos c14] at H
    have c14b0 := decide_eq_true c14
    (try (have c14b0r0 := c14b0; simp only [hl3_1] at c14b0r0))
    clear c14
    obtain ⟨c15, H⟩ : (0 ≤ x19_1) ∧ _ := it_ H
    have c15b0 := decide_eq_true c15
    clear c15
    obtain ⟨c16, H⟩ : (x19_1 < (x3_1.length : Int)) ∧ _ := it_ H
    have c16b0 := decide_eq_true c16
    clear c16
    obtain ⟨y530, hy530⟩ : ∃ y_ : List Int, y_ = (x3_1.set (x19_1 : Int).toNat x4_1) := ⟨_, rfl⟩
    first | rw [Option.bind_some, ← hy530] at H | rw [← hy530] at H
    have Ny530 := ak hy530
    clear hy530
    revert H
    refine bd_ fun t531 A18 H => ?_
    have H' := ak H
    clear H
    have p17 : 0 ≤ (x19_1 : Int) := od_
    have q17 : (x19_1 : Int) < ((x3_1.length : Int) : Int) := od_
    obtain ⟨go17, co17, eo17, gb17, gl17, cl17, HG17⟩ := Kd.R_form HO_3.out (by omega)
    (first | cases eo17 | (injection eo17 with ea_ en_ ec_; (first | subst ea_ | (injection ea_ with ea_; subst ea_)); subst ec_; clear en_))
    have GB17 := ak gb17
    have GG17 := ak HG17
    clear gb17 gl17 HG17
    obtain ⟨hx17_0, hf17_0⟩ := Kd.R_celln 0 HO_3.out (x19_1 : Int) p17 q17
    replace p17 := eq_true p17
    replace q17 := eq_true q17
    have HP19 := Kd.R_putg HO_3.out (x19_1 : Int) x4_1
    go_wp2_with (first | ((with_reducible refine gate_store (t := 22) (p := 25) rfl ?_); refine store_event (t := 22) (p := 25) (v := ?vo_w20) (w1 := (wr.setCell ⟨go17, (x19_1 : Int).toNat, none⟩ (.int .u64 x4_1))) ?hg ?ho ?hn ?hr ?_; (case ho => rfl); (case hg => rfl); (case hn => rfl); (case hr => first | (go_simp; done) | (go_simp; rfl)); intro w20 hw; have hg : wr.grownBy w20 (some go17) := (by rw [hw]; exact HP19.2); have hp_ : Kd.R (Kd.int .u64) 22 w20 w.heap.size (fun _ => True) (.slice (some ⟨go17, 0, none⟩) x3_1.length co13) y530 := (by rw [hw, Ny530.out]; exact HP19.1); clear HP19; refine nx3_ (hp_) (blk_grown (g := gb524) (o := .cells #[.int .i64 a0_0, .int .i64 a0_1, .int .u64 a0_2] 24 (0, 0)) (kU_ BK524.out) hg (Kd.R_ne HO_3.out BK524.out (by decide))) ((by rw [hw]; exact below_set (HB.out) GB17.out : Below w.heap.size w w20)) ?_; clear HO_3 BK524 HB; intro HO_3 BK524 HB; clear hg hw hp_; have hcz21_0 := bc0_ BK524.out; have hcz21_1 := bc1_ BK524.out; have hcz21_2 := bc2_ BK524.out; have hfz21_0 := blk_frozen BK524.out 0; have hfz21_1 := blk_frozen BK524.out 1; have hfz21_2 := blk_frozen BK524.out 2) | ((with_reducible refine gate_callee (f := 19) rfl ?_); refine gl_ (some 30) Tryd.func19 #[.int .i64 a0_0, .int .u64 x4_1, .int .u64 t529] ?_; (with_reducible refine (field_Mul.calls a0_0 x4_1 t529 t531 _ ?side1 A18.out).mono ?_); (case side1 => repeat (first | with_reducible exact HG.out | with_reducible exact (Fld.below HG.out HB.out) | exact (Fld.below HG.out sU_) | (with_reducible refine Fld.alloc ?_ _) | (with_reducible refine Fld.drewN ?_ _) | (with_reducible refine Fld.drew ?_))); rintro e w22 ⟨rfl, hb⟩; refine ⟨_, rfl, ?_⟩; refine nx3_ (R_below (rU_ HO_3.out) hb) (blk_below (kU_ BK524.out) hb) (below_step sU_ hb) ?_; clear HO_3 BK524 HB; intro HO_3 BK524 HB; clear hb))
    (try simp only [← hl3_1])
    go_roundg k1
    case measure => have := HK1.out; omega
    case rel => exact ⟨(y530), (t531), (wrap64 (x19_1 + 1)), gb_, gb_, H', ⟨by have := HK1.out; omega⟩, ⟨by (try simp only [hl3_1]); (with_reducible repeat (first | apply Kd.R_alloc | apply Kd.R_drewN | apply R_drew)); exact HO_3.out⟩, ⟨by (try simp only [hl3_1]); (with_reducible repeat (first | refine blk_drewN ?_ _ | refine blk_drew ?_ | refine blk_alloc ?_ _)); exact BK524.out⟩, ⟨sU_⟩⟩
   rw [if_neg c14] at H
   have c14b0 := decide_eq_false c14
   (try (have c14b0r0 := c14b0; simp only [hl3_1] at c14b0r0))
   clear c14
   obtain rfl := Option.some.inj H
   go_wp2
   go_ret
   exact ⟨_, eW_, rU_ HO_3.out, sU_⟩

def attestorlaw09_word.l0 : Nat → List Int → List Int → List Int → Int → Int → Int → Int → Option (List Int)
 | 0, _, _, _, _, _, _, _ => none
 | k + 1, x1, x5, x6, x7, x533000, x533001, x533002 => if x7 < (x5.length : Int) then (if 0 ≤ x7 then ((poly_Eval.f k x533000 x1 (rd x5 x7)).bind fun t537 => (if x6.length < 17592186044416 then (attestorlaw09_word.l0 k x1 x5 (x6 ++ [t537]) (wrap64 (x7 + 1)) x533000 x533001 x533002) else (none))) else (none)) else (some x6)
def attestorlaw09_word.f (k : Nat) (a0_0 : Int) (a0_1 : Int) (a0_2 : Int) (l1 : List Int) : Option (List Int) := (code_Points.f k a0_0 a0_1 a0_2).bind fun t533 => (attestorlaw09_word.l0 k l1 t533 ([] : List Int) 0 a0_0 a0_1 a0_2)
def attestorlaw09_word.T6 : Bool × List (List Nat × List Nat) := (true, [([], []), ([], []), ([1], [1]), ([], []), ([], []), ([], []), ([4, 5], [4, 5]), ([6], [6]), ([2, 3, 7], [2, 3, 7]), ([8], [8]), ([0, 9, 8], [0, 9]), ([10, 10, 0, 1, 2, 3, 4, 5, 6, 7, 8, 9, 10], [0, 10])])
def attestorlaw09_word.B6 : List Nat := [0, 0, 2, 0, 0, 0, 48, 112, 254, 510, 1023, 2047]
theorem attestorlaw09_word.tab6 : rtab .any (opsOf Tryd.f36 6) = attestorlaw09_word.T6 := by kernel_rfl
theorem attestorlaw09_word.bits6 : waitsOk attestorlaw09_word.T6.2 attestorlaw09_word.B6 = true := by kernel_rfl
set_option maxHeartbeats 8000000 in
set_option maxRecDepth 100000 in
theorem attestorlaw09_word.calls (k : Nat) (a0_0 : Int) (a0_1 : Int) (a0_2 : Int) (A1 : Option Addr) (c1 : Nat) (l1 : List Int) (r : List Int) (w : World) (hG : Fld w) (hr1 : Kd.C (Kd.int .u64) w A1 l1.length l1) (hc1 : l1.length ≤ c1) (h : attestorlaw09_word.f k a0_0 a0_1 a0_2 l1 = some r) :
  Calls Tryd.prog 36 #[.agg #[.int .i64 a0_0, .int .i64 a0_1, .int .u64 a0_2], .slice A1 l1.length c1] w fun e w' => ∃ v0_ : Value, e = .returned (v0_) ∧ Kd.R (Kd.int .u64) 22 w' w.heap.size (fun _ => True) v0_ r ∧ Below w.heap.size w w' := by
 have hu24 := Tryd.underlying24
 have HG := ak hG
 clear hG
 have HR1 := ak hr1
 have HC1 := ak hc1
 clear hr1 hc1
 have HB := ak (Below.refl w.heap.size w)
 have H := h
 clear h
 unfold attestorlaw09_word.f at H
 revert H
 refine bd_ fun t533 A3 H => ?_
 have H' := ak H
 clear H
 go_enter Tryd.func36, Tryd.ntmps36
 go_wp2_with (first | ((with_reducible refine gate_dst (N := 2) rfl ?_); refine bx_ 2 24 #[.int .i64 a0_0, .int .i64 a0_1, .int .u64 a0_2] ?_; intro gb532 hg w4 hbox hb; refine nx4_ (below_step (bU_ HB.out) hb) (hbox) ((hs_ hg (below_size (bU_ HB.out)))) ((hs_ hg (below_size (bU_ HB.out)))) ?_; clear HB; intro HB BK532 GW532 GE532; clear hb hbox hg; have hcz5_0 := bc0_ BK532.out; have hcz5_1 := bc1_ BK532.out; have hcz5_2 := bc2_ BK532.out; have hfz5_0 := blk_frozen BK532.out 0; have hfz5_1 := blk_frozen BK532.out 1; have hfz5_2 := blk_frozen BK532.out 2) | ((with_reducible refine gate_callee (f := 61) rfl ?_); refine gl_ (some 9) Tryd.func61 #[.agg #[.int .i64 a0_0, .int .i64 a0_1, .int .u64 a0_2]] ?_; (with_reducible refine (code_Points.calls k a0_0 a0_1 a0_2 t533 _ ?side1 A3.out).mono ?_); (case side1 => repeat (first | with_reducible exact HG.out | with_reducible exact (Fld.below HG.out HB.out) | exact (Fld.below HG.out sU_) | (with_reducible refine Fld.alloc ?_ _) | (with_reducible refine Fld.drewN ?_ _) | (with_reducible refine Fld.drew ?_))); rintro e w6 ⟨v534, rfl, ho0, hb⟩; refine ⟨_, rfl, ?_⟩; refine nx3_ (R_lower ho0 (below_size sU_)) (blk_below (kU_ BK532.out) hb) (below_step sU_ hb) ?_; clear BK532 HB; intro HO535 BK532 HB; clear hb ho0))
 go_loopg [6, 7] k (fun kq v6 v7 w' => ∃ (x6_1 : List Int) (x7_1 : Int), v7 = .int .i64 x7_1 ∧ Aside0 (attestorlaw09_word.l0 kq l1 t533 x6_1 x7_1 a0_0 a0_1 a0_2 = some r) ∧ Aside0 (kq ≤ k) ∧ Aside0 (Kd.R (Kd.int .u64) 22 w' w.heap.size (fun k_ => some k_ ≠ (v6 : Value).ownBlock) v534 t533) ∧ Aside0 (Kd.R (Kd.int .u64) 22 w' w.heap.size (fun k_ => some k_ ≠ (v534 : Value).ownBlock) v6 x6_1) ∧ Aside0 (w'.heap[gb532]? = some (.cells #[.int .i64 a0_0, .int .i64 a0_1, .int .u64 a0_2] 24 (0, 0))) ∧ Aside0 (Below w.heap.size w w'))
 case atStart => exact ⟨(([] : List Int)), (0), gb_, H', ⟨Nat.le_refl _⟩, ⟨R_mono (rU_ HO535.out) (fun _ hk => (by simp [Value.ownBlock]))⟩, ⟨by first | exact Kd.R_nil _ _ _ _ _ | exact Kd.N_nil _ _ _ _ _ | exact Kd.V_nil _ _ _ _ _ | exact Kd.Q_nil _ _ _ _ _ | exact Kd.S_nil _ _ _ _ _⟩, ⟨by (with_reducible repeat (first | refine blk_drewN ?_ _ | refine blk_drew ?_ | refine blk_alloc ?_ _)); exact BK532.out⟩, ⟨sU_⟩⟩
 case round =>
  clear H'
  (try clear c1); (try clear p2); (try clear c3); (try clear c6); (try clear hcz5_0); (try clear hcz5_1); (try clear hcz5_2); (try clear hfz5_0); (try clear hfz5_1); (try clear hfz5_2)
  obtain ⟨x6_1, x7_1, rfl, HA, HK1, HO_5, HO_6, BK532, HB⟩ := hrel
  cases gk with
  | zero => exact absurd HA.out (by simp [attestorlaw09_word.l0])
  | succ k1 =>
   have H := HA.out
   clear HA
   simp only [attestorlaw09_word.l0] at H
   by_cases c7 : x7_1 < (t533.length : Int)
   ·rw [if_pos c7] at H
    have c7b0 := decide_eq_true c7
    clear c7
    obtain ⟨c8, H⟩ : (0 ≤ x7_1) ∧ _ := it_ H
    have c8b0 := decide_eq_true c8
    clear c8
    revert H
    refine bd_ fun t537 A9 H => ?_
    obtain ⟨c10, H⟩ : (x6_1.length < 17592186044416) ∧ _ := it_ H
    have LMc10 := ak c10
    clear c10
    obtain ⟨y538, hy538⟩ : ∃ y_ : List Int, y_ = (x6_1 ++ [t537]) := ⟨_, rfl⟩
    first | rw [Option.bind_some, ← hy538] at H | rw [← hy538] at H
    have Ny538 := ak hy538
    clear hy538
    have H' := ak H
    clear H
    obtain ⟨Ao11, co11, eo11⟩ := R_slice HO_5.out
    subst eo11
    try go_wp2
    refine nx4_ (R_drew HO_5.out) (R_drew HO_6.out) (blk_drew BK532.out) (below_drew1 HB.out) ?_
    clear HO_5 HO_6 BK532 HB
    intro HO_5 HO_6 BK532 HB
    have p536 : 0 ≤ (x7_1 : Int) := od_
    have q536 : x7_1 < (t533.length : Int) := od_
    obtain ⟨ad536, e536, hx536_0⟩ := Kd.at_int (R_reads' HO_5.out).2.2 x7_1 p536 q536
    cases e536
    replace p536 := eq_true p536
    replace q536 := eq_true q536
    refine start_ (n := 12) (S := fun w' => w'.cell? ⟨gb532, 0, none⟩ = some (.int .i64 a0_0) ∧ w'.cell? ⟨gb532, 1, none⟩ = some (.int .i64 a0_1) ∧ w'.cell? ⟨gb532, 2, none⟩ = some (.int .u64 a0_2) ∧ w'.cell? (ad536.add (x7_1).toNat) = some (.int .u64 (rd t533 x7_1))) (ds := [9, 10]) (bv 12 0) (by kernel_rfl) rfl rfl ⟨bc0_ BK532.out, bc1_ BK532.out, bc2_ BK532.out, hx536_0⟩ (fun hHeld => ?_); refine with_tabW attestorlaw09_word.tab6 attestorlaw09_word.bits6 (fun HT_ HW_ => ?_)
    generalize wr.drew = w12 at HO_5 HO_6 BK532 HB hx536_0 hHeld ⊢
    refine pq_ 0 16 12 1 HT_.out ?_
    refine pq_ 1 17 12 3 HT_.out ?_
    refine pq_ 3 19 12 11 HT_.out ?_
    refine pq_ 4 20 12 27 HT_.out ?_
    refine pq_ 5 21 12 59 HT_.out ?_
    refine pq_ 6 22 12 123 HT_.out ?_
    refine tq_ 2 18 12 127 HT_.out HW_.out hHeld ?_
    refine tq_ 7 23 12 255 HT_.out HW_.out hHeld ?_
    refine oq_ 8 24 12 511 HT_.out fun K hK => ?_
    refine gs_ Tryd.func46 #[.int .i64 a0_0, .slice A1 l1.length c1, .int .u64 (rd t533 x7_1)] ?_
    with_reducible refine (poly_Eval.calls k1 a0_0 _ _ l1 (rd t533 x7_1) t537 _ ?side1 ?side2 ?side3 A9.out).mono ?_
    (case side1 => repeat (first | with_reducible exact HG.out | with_reducible exact (Fld.below HG.out HB.out) | exact (Fld.below HG.out sU_) | (with_reducible refine Fld.alloc ?_ _) | (with_reducible refine Fld.drewN ?_ _) | (with_reducible refine Fld.drew ?_)))
    (case side2 => exact cU_ (C_below HR1.out HB.out))
    (case side3 => exact HC1.out)
    rintro e w13 ⟨rfl, hb⟩
    have HS3_ := (hb.cell (World.block_lt_of_cell? _ _ (hHeld.2.2.2))).trans (hHeld.2.2.2)
    refine ⟨_, rfl, ?_⟩
    refine nx4_ (R_below (rU_ HO_5.out) hb) (R_below (rU_ HO_6.out) hb) (blk_below (kU_ BK532.out) hb) (below_step sU_ hb) ?_
    clear HO_5 HO_6 BK532 HB
    intro HO_5 HO_6 BK532 HB
    (try clear hb)
    (try clear hb2)
    (try clear hk)
    (try clear hi)
    refine hK.out _ _ ⟨bc0_ BK532.out, bc1_ BK532.out, bc2_ BK532.out, HS3_⟩ (fun hHeld => ?_)
    clear hK K
    refine norm_ (a' := ?_) ?_ ?_
    rotate_left
    ·show Act.put _ (some 24) _ = _
     simp only [Act.put, s1_, s2_, s3_, i64_w, i32_w]
     rfl
    refine last_ (i := 9) (N := some 25) #[true, true, true, true, true, true, true, true, true, true, false, false] rfl rfl (one_of HT_.out (by kernel_rfl)) (by decide) (fun K hK => ?_)
    refine value_ (w1 := ?_) (v := ?_) (by rfl) rfl ?_ ?_
    rotate_left 2
    ·go_simp
     constructor
     ·rfl
     rfl
    refine hK.out _ _ ?_
    clear hK K
    refine norm_ (a' := ?_) ?_ ?_
    rotate_left
    ·show Act.put _ (some 25) _ = _
     simp only [Act.put, s1_, s2_, s3_, i64_w, i32_w]
     rfl
    refine last_ (i := 10) (N := some 26) #[true, true, true, true, true, true, true, true, true, true, true, false] rfl rfl (one_of HT_.out (by kernel_rfl)) (by decide) (fun K hK => ?_)
    refine Kd.R_append_step (Kd.int .u64) (w0 := w) w.heap.size (by rfl) (.tmp 16) (.tmp 25) 33 22 (.int .u64 0) 8 rfl Tryd.underlying33 info22 rfl (by decide) (by omega) u6 x6_1 t537 [.int .u64 t537] (fun k_ => some k_ ≠ (.slice (some ad536) t533.length co11 : Value).ownBlock) (fun _ => False) rfl rfl ?aP (fun _ hk => hk.elim) ?aF ?aO ?aB ?aS ?aL ?_
    (case aP => exact rfl)
    (case aB => exact sU_)
    (case aF => exact (fun k_ hk => fresh' (R_lt (rU_ HO_5.out)) k_ hk))
    (case aO => exact (rU_ HO_6.out))
    (case aS => exact (below_size sU_))
    (case aL => have := LMc10.out; omega)
    intro v539 w14 ho hb hg hat
    rw [← Ny538.out] at ho
    refine nx4_ (Kd.R_after (ok := (fun _ => True)) (R_mono (rU_ HO_5.out) (fun _ hk => ⟨trivial, hk⟩)) hg hat) (blk_grown (g := gb532) (o := .cells #[.int .i64 a0_0, .int .i64 a0_1, .int .u64 a0_2] 24 (0, 0)) (kU_ BK532.out) hg (Kd.R_ne HO_6.out BK532.out (by decide))) (hb) (ho) ?_
    clear HO_5 BK532 HB HO_6
    intro HO_5 BK532 HB HO540
    clear ho hb hg hat
    refine hK.out _ _ ?_
    clear hK K
    refine norm_ (a' := ?_) ?_ ?_
    rotate_left
    ·show Act.put _ (some 26) _ = _
     simp only [Act.put, s1_, s2_, s3_, i64_w, i32_w]
     rfl
    refine pq_ 11 6 12 4095 HT_.out ?_
    refine done_ (done_of HT_.out (by kernel_rfl)) ?_
    try go_wp2
    go_roundg k1
    case measure => have := HK1.out; omega
    case rel => exact ⟨(y538), (wrap64 (x7_1 + 1)), gb_, H', ⟨by have := HK1.out; omega⟩, ⟨R_mono (rU_ HO_5.out) (fun _ hk => hk.2)⟩, ⟨rU_ HO540.out⟩, ⟨by (with_reducible repeat (first | refine blk_drewN ?_ _ | refine blk_drew ?_ | refine blk_alloc ?_ _)); exact BK532.out⟩, ⟨sU_⟩⟩
   rw [if_neg c7] at H
   have c7b0 := decide_eq_false c7
   clear c7
   obtain rfl := Option.some.inj H
   obtain ⟨Ao15, co15, eo15⟩ := R_slice HO_5.out
   subst eo15
   go_wp2
   go_ret
   exact ⟨_, eW_, R_mono (rU_ HO_6.out) (fun _ hk => trivial), sU_⟩

end Go.Proofs.YthinfmfjpaikiaaDoor.Q

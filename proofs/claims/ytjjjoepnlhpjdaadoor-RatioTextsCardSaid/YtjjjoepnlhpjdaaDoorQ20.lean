-- Written by prx.py (this session's driver of the kit's print) out of the translation. Not trusted: Lean checks it.
import Derived.Test.YtjjjoepnlhpjdaaDoorQ0
import Derived.Test.YtjjjoepnlhpjdaaDoorQ1
import Derived.Test.YtjjjoepnlhpjdaaDoorQ2
import Derived.Test.YtjjjoepnlhpjdaaDoorQ4
import Derived.Test.YtjjjoepnlhpjdaaDoorQ19
import Derived.Test.YtjjjoepnlhpjdaaDoorQ21
import Derived.Test.YtjjjoepnlhpjdaaDoorQ22
namespace Go.Proofs.YtjjjoepnlhpjdaaDoor.Q
open Go.RowKit Go.Proofs.YtjjjoepnlhpjdaaDoorW.PrintWords Go.Proofs.YtjjjoepnlhpjdaaDoorW.PrintLast Go.Proofs.YtjjjoepnlhpjdaaDoorW.PrintMore
attribute [local go_sem] max2_int min2_int max_two min_two max_three min_three max_four min_four   -- for this text's walks alone
set_option linter.unusedVariables false
set_option linter.unusedSimpArgs false

/-! ### attestorref02_Nat: function 17 -/
def attestorref02_Nat.f (k : Nat) (a0 : Int) : Option (List Int) := (attestorref02_trim.f k (([(Int.tmod a0 4294967296) % 4294967296, (IntKind.u64.wrap (Int.tdiv a0 4294967296)) % 4294967296] : List Int))).bind fun t969 => (some t969)
set_option maxHeartbeats 8000000 in
set_option maxRecDepth 100000 in
theorem attestorref02_Nat.calls (k : Nat) (a0 : Int) (r : List Int) (w : World) (h : attestorref02_Nat.f k a0 = some r) :
  Calls Tryd.prog 17 #[.int .u64 a0] w fun e w' => ∃ v0_ : Value, e = .returned (v0_) ∧ Kd.R (Kd.int .u32) 44 w' w.heap.size (fun _ => True) v0_ r ∧ Below w.heap.size w w' := by
 have HB := ak (Below.refl w.heap.size w)
 have H : ((attestorref02_trim.f k (([(Int.tmod a0 4294967296) % 4294967296, (IntKind.u64.wrap (Int.tdiv a0 4294967296)) % 4294967296] : List Int))).bind fun t969 => (some t969)) = some r := h
 clear h
 obtain ⟨y966, hy966⟩ : ∃ y_ : List Int, y_ = (([(Int.tmod a0 4294967296) % 4294967296, (IntKind.u64.wrap (Int.tdiv a0 4294967296)) % 4294967296] : List Int)) := ⟨_, rfl⟩
 replace H : ((attestorref02_trim.f k y966).bind fun t969 => (some t969)) = some r := by first | (rw [hy966]; with_reducible exact H) | (have H2_ := (Option.bind_some _ _).symm.trans H; rw [hy966]; with_reducible exact H2_) | (have H2_ := (Option.bind_some _ _).symm.trans H; with_reducible exact H2_) | with_reducible exact H | (rw [hy966]; exact H) | exact H
 have Ny966 := ak hy966
 clear hy966
 revert H
 refine bd_ fun t969 A2 H => ?_
 obtain rfl := Option.some.inj H
 go_enter Tryd.func17, Tryd.ntmps17
 go_wp2_with (first | ((with_reducible refine gate_dst (N := 9) rfl ?_); refine Kd.R_lit (Kd.int .u32) _ 44 ?hg (N := 9) ?hd (xs := ([(Int.tmod a0 4294967296) % 4294967296, (IntKind.u64.wrap (Int.tdiv a0 4294967296)) % 4294967296] : List Int)) (inner := [.int .u32 ((Int.tmod a0 4294967296) % 4294967296), .int .u32 ((IntKind.u64.wrap (Int.tdiv a0 4294967296)) % 4294967296)]) (ok := fun _ => True) (okp := fun _ => True) ?hr ?hp (fun _ hk => hk) trivial (Below.refl _ _) (Nat.le_refl _) (by simp) ?_; (case hd => rfl); (case hg => rfl); (case hr => first | (go_simp; done) | (go_simp; rfl)); (case hp => exact (Reps.one (show Kd.M (Kd.int .u32) _ _ _ ((Int.tmod a0 4294967296) % 4294967296) [.int .u32 ((Int.tmod a0 4294967296) % 4294967296)] from rfl) (Reps.one (show Kd.M (Kd.int .u32) _ _ _ ((IntKind.u64.wrap (Int.tdiv a0 4294967296)) % 4294967296) [.int .u32 ((IntKind.u64.wrap (Int.tdiv a0 4294967296)) % 4294967296)] from rfl) (Reps.none _ _)))); intro v967 w3 ho4 hb hg_ hnew_; clear hg_ hnew_; (first | rw [← Ny966.out] at ho4 | (simp only [Int.reduceToNat] at ho4; rw [← Ny966.out] at ho4)); refine nx2_ (Kd.R_lower ho4 (below_size (bU_ HB.out))) (below_step (bU_ HB.out) hb) ?_; clear HB; intro HO968 HB; clear hb ho4; obtain ⟨Ao5, co5, eo5⟩ := Kd.R_slice HO968.out; subst eo5) | ((with_reducible refine gate_callee (f := 69) rfl ?_); refine gl_ (some 10) Tryd.func69 #[.slice Ao5 y966.length co5] ?_; (with_reducible refine (attestorref02_trim.calls k _ _ y966 t969 _ ?side1 ?side2 A2.out).mono ?_); (case side1 => exact cU_ ((Kd.R_reads' HO968.out).2.2)); (case side2 => exact (Kd.R_reads' HO968.out).2.1); rintro e w6 ⟨v970, rfl, ho0, hb⟩; refine ⟨_, rfl, ?_⟩; refine nx3_ (Kd.R_elder' (rU_ HO968.out) (Kd.R_base ho0) hb) (Kd.R_lower (Kd.R_new' ho0 (Kd.R_lt (rU_ HO968.out))) (below_size (bU_ HB.out))) (below_step (bU_ HB.out) hb) ?_; clear HO968 HB; intro HO968 HO971 HB; clear hb ho0))
 go_ret
 exact ⟨_, by first | rfl | (simp [errW_none, errW_some] <;> rfl) | (simp [*, errW_none, errW_some] <;> rfl), Kd.R_mono (rU_ HO971.out) (fun _ hk => trivial), bU_ HB.out⟩

/-! ### attestorref02_natural: function 61 -/
def attestorref02_natural.l0 : Nat → ByteArray → Int → Option (Bool)
 | 0, _, _ => none
 | k + 1, x0, x3 => if x3 < (x0.size : Int) then (if 0 ≤ x3 then (if (bt x0 x3) < 48 then (some false) else (if (bt x0 x3) > 57 then (some false) else (attestorref02_natural.l0 k x0 (wrap64 (x3 + 1))))) else (none)) else (if x0.toList = ([48] : List UInt8) then (some true) else (if x0.toList = ([] : List UInt8) then (some false) else (if 0 < (x0.size : Int) then (some ((bt x0 0) != 48)) else (none))))
def attestorref02_natural.f (k : Nat) (a0 : ByteArray) : Option (Bool) := attestorref02_natural.l0 k a0 0
set_option maxHeartbeats 8000000 in
set_option maxRecDepth 100000 in
theorem attestorref02_natural.calls (k : Nat) (a0 : ByteArray) (r : Bool) (w : World) (h : attestorref02_natural.f k a0 = some r) :
  Calls Tryd.prog 61 #[.string a0] w fun e w' => e = .returned (.bool r) ∧ Drawn0 w w' := by
 have H : (attestorref02_natural.l0 k a0 0) = some r := h
 clear h
 have H' := ak H
 clear H
 go_enter Tryd.func61, Tryd.ntmps61
 go_wp2
 go_loopg [3] k (fun kq v3 w' => ∃ (x3_1 : Int), v3 = .int .i64 x3_1 ∧ Aside0 (attestorref02_natural.l0 kq a0 x3_1 = some r) ∧ Aside0 (kq ≤ k) ∧ Drawn0 w w')
 case atStart => exact ⟨(0), gb_, H', ⟨Nat.le_refl _⟩, by repeat (first | exact Drawn0.refl _ | apply Drawn0.step)⟩
 case round =>
  clear H'
  obtain ⟨x3_1, rfl, HA, HK1, ⟨m1, rfl⟩⟩ := hrel
  cases gk with
  | zero => exact absurd HA.out (by simp [attestorref02_natural.l0])
  | succ k1 =>
   have H := HA.out
   clear HA
   simp only [attestorref02_natural.l0] at H
   by_cases c2 : x3_1 < (a0.size : Int)
   ·rw [if_pos c2] at H
    have c2b0 := decide_eq_true c2
    clear c2
    obtain ⟨c3, H⟩ : (0 ≤ x3_1) ∧ _ := it_ H
    have c3b0 := decide_eq_true c3
    clear c3
    by_cases c5 : (bt a0 x3_1) < 48
    ·rw [if_pos c5] at H
     have c5b0 := decide_eq_true c5
     clear c5
     obtain rfl := Option.some.inj H
     have p4 : 0 ≤ (x3_1 : Int) := od_
     have q4 : x3_1 < (a0.size : Int) := od_
     have hx4 := bt_at a0 x3_1
     replace p4 := eq_true p4
     replace q4 := eq_true q4
     go_wp2
     go_ret
     exact ⟨by first | rfl | (simp; done) | (simp [*]; done), by repeat (first | exact Drawn0.refl _ | apply Drawn0.step)⟩
    ·rw [if_neg c5] at H
     have c5b0 := decide_eq_false c5
     clear c5
     by_cases c7 : (bt a0 x3_1) > 57
     ·rw [if_pos c7] at H
      have c7b0 : decide (57 < (bt a0 x3_1)) = true := decide_eq_true c7
      clear c7
      obtain rfl := Option.some.inj H
      have p4 : 0 ≤ (x3_1 : Int) := od_
      have q4 : x3_1 < (a0.size : Int) := od_
      have hx4 := bt_at a0 x3_1
      replace p4 := eq_true p4
      replace q4 := eq_true q4
      have p6 : 0 ≤ (x3_1 : Int) := od_
      have q6 : x3_1 < (a0.size : Int) := od_
      have hx6 := bt_at a0 x3_1
      replace p6 := eq_true p6
      replace q6 := eq_true q6
      go_wp2
      go_ret
      exact ⟨by first | rfl | (simp; done) | (simp [*]; done), by repeat (first | exact Drawn0.refl _ | apply Drawn0.step)⟩
     ·rw [if_neg c7] at H
      have c7b0 : decide (57 < (bt a0 x3_1)) = false := decide_eq_false c7
      clear c7
      have H' := ak H
      clear H
      have p4 : 0 ≤ (x3_1 : Int) := od_
      have q4 : x3_1 < (a0.size : Int) := od_
      have hx4 := bt_at a0 x3_1
      replace p4 := eq_true p4
      replace q4 := eq_true q4
      have p6 : 0 ≤ (x3_1 : Int) := od_
      have q6 : x3_1 < (a0.size : Int) := od_
      have hx6 := bt_at a0 x3_1
      replace p6 := eq_true p6
      replace q6 := eq_true q6
      go_wp2
      go_roundg k1
      case measure => have := HK1.out; omega
      case rel => exact ⟨(wrap64 (x3_1 + 1)), gb_, H', ⟨by have := HK1.out; omega⟩, by repeat (first | exact Drawn0.refl _ | apply Drawn0.step)⟩
   ·rw [if_neg c2] at H
    have c2b0 := decide_eq_false c2
    clear c2
    by_cases c8 : a0.toList = ([48] : List UInt8)
    ·rw [if_pos c8] at H
     have c8b0 := beq_iff_eq.mpr c8
     have c8b1 := bne_eq_false_iff_eq.mpr c8
     clear c8
     obtain rfl := Option.some.inj H
     go_wp2
     go_ret
     exact ⟨by first | rfl | (simp; done) | (simp [*]; done), by repeat (first | exact Drawn0.refl _ | apply Drawn0.step)⟩
    ·rw [if_neg c8] at H
     have c8b0 := beq_eq_false_iff_ne.mpr c8
     have c8b1 := bne_iff_ne.mpr c8
     by_cases c9 : a0.toList = ([] : List UInt8)
     ·rw [if_pos c9] at H
      have c9b0 := beq_iff_eq.mpr c9
      have c9b1 := bne_eq_false_iff_eq.mpr c9
      clear c9
      obtain rfl := Option.some.inj H
      go_wp2
      go_ret
      exact ⟨by first | rfl | (simp; done) | (simp [*]; done), by repeat (first | exact Drawn0.refl _ | apply Drawn0.step)⟩
     ·rw [if_neg c9] at H
      have c9b0 := beq_eq_false_iff_ne.mpr c9
      have c9b1 := bne_iff_ne.mpr c9
      obtain ⟨c10, H⟩ : (0 < (a0.size : Int)) ∧ _ := it_ H
      have c10b0 := decide_eq_true c10
      have c10b1 : decide (0 < a0.size) = true := decide_eq_true (by omega)
      clear c10
      obtain rfl := Option.some.inj H
      have p11 : 0 ≤ (0 : Int) := (by omega)
      have q11 : 0 < a0.size := (by have : (0 : Int) < (a0.size : Int) := od_; omega)
      have hx11 : ∀ h : 0 < a0.size, ((a0[0]'h).toNat : Int) = bt a0 0 := bt_at a0 0
      clear p11
      have qi11 : (0 < (a0.size : Int)) = True := eq_true od_
      replace q11 := eq_true q11
      go_wp2
      go_ret
      exact ⟨by first | rfl | (simp; done) | (simp [*]; done), by repeat (first | exact Drawn0.refl _ | apply Drawn0.step)⟩

/-! ### attestorref02_Parse: function 12 -/
def attestorref02_Parse.l0 : Nat → ByteArray → List Int → Int → Option (List Int × Int)
 | 0, _, _, _ => none
 | k + 1, x0, x4, x5 => if x5 < (x0.size : Int) then ((attestorref02_product.f k x4 (([10] : List Int))).bind fun t996 => (if 0 ≤ x5 then ((attestorref02_Nat.f k (((bt x0 x5) - 48) % 256)).bind fun t999 => ((attestorref02_sum.f k t996 t999).bind fun t1002 => (attestorref02_Parse.l0 k x0 t1002 (wrap64 (x5 + 1))))) else (none))) else ((attestorref02_bounded.f x4).bind fun bt1005 => (some (bt1005.1, bt1005.2)))
def attestorref02_Parse.f (k : Nat) (a0 : ByteArray) : Option (List Int × Int) := (attestorref02_natural.f k a0).bind fun t992 => (if t992 = true then (if (a0.size : Int) > 700 then (some (([] : List Int), 3)) else (attestorref02_Parse.l0 k a0 ([] : List Int) 0)) else (some (([] : List Int), 4)))
def attestorref02_Parse.T9 : Bool × List (List Nat × List Nat) := (true, [([], []), ([], []), ([0, 1], [0, 1]), ([], []), ([], []), ([3, 4], [3, 4]), ([5], [5]), ([6], [6]), ([7, 2], [7]), ([2, 8, 8], [2, 8]), ([9, 9, 0, 1, 2, 3, 4, 5, 6, 7, 8, 9], [0, 9])])
def attestorref02_Parse.B9 : List Nat := [0, 0, 3, 0, 0, 24, 56, 120, 255, 511, 1023]
theorem attestorref02_Parse.tab9 : rtab .any (opsOf Tryd.f12 9) = attestorref02_Parse.T9 := by kernel_rfl
theorem attestorref02_Parse.bits9 : waitsOk attestorref02_Parse.T9.2 attestorref02_Parse.B9 = true := by kernel_rfl
set_option maxHeartbeats 8000000 in
set_option maxRecDepth 100000 in
theorem attestorref02_Parse.calls (k : Nat) (a0 : ByteArray) (r1 : List Int) (r2 : Int) (w : World) (h : attestorref02_Parse.f k a0 = some (r1, r2)) :
  Calls Tryd.prog 12 #[.string a0] w fun e w' => ∃ v0_ : Value, e = .returned (.tuple #[v0_, .int .i64 r2]) ∧ Kd.V (Kd.int .u32) 44 w' w.heap.size (fun k_ => (w.heap.size ≤ k_)) v0_ r1 ∧ Below w.heap.size w w' := by
 have HB := ak (Below.refl w.heap.size w)
 have H : ((attestorref02_natural.f k a0).bind fun t992 => (if t992 = true then (if (a0.size : Int) > 700 then (some (([] : List Int), 3)) else (attestorref02_Parse.l0 k a0 ([] : List Int) 0)) else (some (([] : List Int), 4)))) = some (r1, r2) := h
 clear h
 revert H
 refine bd_ fun t992 A2 H => ?_
 by_cases c3 : t992 = true
 ·subst c3
  rw [if_pos rfl] at H
  by_cases c4 : (a0.size : Int) > 700
  ·rw [if_pos c4] at H
   have c4b0 : decide (700 < (a0.size : Int)) = true := decide_eq_true c4
   have c4b1 : decide (700 < a0.size) = true := decide_eq_true (by omega)
   clear c4
   simp only [Option.some.injEq, Prod.mk.injEq] at H
   obtain ⟨rfl, rfl⟩ := H
   go_enter Tryd.func12, Tryd.ntmps12
   go_wp2_with (first | ((with_reducible refine gate_callee (f := 61) rfl ?_); refine gl_ (some 7) Tryd.func61 #[.string a0] ?_; (with_reducible refine (attestorref02_natural.calls k a0 true _ A2.out).mono ?_); rintro e w' ⟨rfl, ⟨nd, rfl⟩⟩; refine ⟨_, rfl, ?_⟩))
   go_ret2
   exact ⟨_, by first | rfl | (simp [errW_none, errW_some] <;> rfl) | (simp [*, errW_none, errW_some] <;> rfl), Kd.V_nil _ _ _ _ _, bU_ HB.out⟩
  ·rw [if_neg c4] at H
   have c4b0 : decide (700 < (a0.size : Int)) = false := decide_eq_false c4
   have c4b1 : decide (700 < a0.size) = false := decide_eq_false (by omega)
   clear c4
   have H' := ak H
   clear H
   go_enter Tryd.func12, Tryd.ntmps12
   go_wp2_with (first | ((with_reducible refine gate_callee (f := 61) rfl ?_); refine gl_ (some 7) Tryd.func61 #[.string a0] ?_; (with_reducible refine (attestorref02_natural.calls k a0 true _ A2.out).mono ?_); rintro e w' ⟨rfl, ⟨nd, rfl⟩⟩; refine ⟨_, rfl, ?_⟩))
   go_loopg [4, 5] k (fun kq v4 v5 w' => ∃ (x4_1 : List Int) (x5_1 : Int), v5 = .int .i64 x5_1 ∧ Aside0 (attestorref02_Parse.l0 kq a0 x4_1 x5_1 = some (r1, r2)) ∧ Aside0 (kq ≤ k) ∧ Aside0 (Kd.R (Kd.int .u32) 44 w' w.heap.size (fun k_ => (w.heap.size ≤ k_)) v4 x4_1) ∧ Aside0 (Below w.heap.size w w'))
   case atStart => exact ⟨(([] : List Int)), (0), gb_, H', ⟨Nat.le_refl _⟩, ⟨by first | exact Kd.R_nil _ _ _ _ _ | exact Kd.N_nil _ _ _ _ _ | exact Kd.V_nil _ _ _ _ _ | exact Kd.Q_nil _ _ _ _ _ | exact Kd.S_nil _ _ _ _ _⟩, ⟨bU_ HB.out⟩⟩
   case round =>
    clear H'
    (try clear c1); (try clear p2); (try clear c3); (try clear c4); (try clear c4b0); (try clear c4b1)
    obtain ⟨x4_1, x5_1, rfl, HA, HK1, HO_4, HB⟩ := hrel
    cases gk with
    | zero => exact absurd HA.out (by simp [attestorref02_Parse.l0])
    | succ k1 =>
     have H := HA.out
     clear HA
     simp only [attestorref02_Parse.l0] at H
     by_cases c5 : x5_1 < (a0.size : Int)
     ·rw [if_pos c5] at H
      have c5b0 := decide_eq_true c5
      clear c5
      obtain ⟨y993, hy993⟩ : ∃ y_ : List Int, y_ = (([10] : List Int)) := ⟨_, rfl⟩
      replace H : ((attestorref02_product.f k1 x4_1 y993).bind fun t996 => (if 0 ≤ x5_1 then ((attestorref02_Nat.f k1 (((bt a0 x5_1) - 48) % 256)).bind fun t999 => ((attestorref02_sum.f k1 t996 t999).bind fun t1002 => (attestorref02_Parse.l0 k1 a0 t1002 (wrap64 (x5_1 + 1))))) else (none))) = some (r1, r2) := by first | (rw [hy993]; with_reducible exact H) | (have H2_ := (Option.bind_some _ _).symm.trans H; rw [hy993]; with_reducible exact H2_) | (have H2_ := (Option.bind_some _ _).symm.trans H; with_reducible exact H2_) | with_reducible exact H | (rw [hy993]; exact H) | exact H
      have Ny993 := ak hy993
      clear hy993
      revert H
      refine bd_ fun t996 A6 H => ?_
      obtain ⟨c7, H⟩ : (0 ≤ x5_1) ∧ _ := it_ H
      have c7b0 := decide_eq_true c7
      clear c7
      revert H
      refine bd_ fun t999 A9 H => ?_
      revert H
      refine bd_ fun t1002 A10 H => ?_
      have H' := ak H
      clear H
      try go_wp2
      refine nx2_ (Kd.R_drew HO_4.out) (below_drew1 HB.out) ?_
      clear HO_4 HB
      intro HO_4 HB
      have p8 : 0 ≤ (x5_1 : Int) := od_
      have q8 : x5_1 < (a0.size : Int) := od_
      have hx8 := bt_at a0 x5_1
      replace p8 := eq_true p8
      replace q8 := eq_true q8
      refine start_ (n := 11) (S := fun w' => True) (ds := []) (bv 11 0) (by kernel_rfl) rfl rfl trivial (fun hHeld => ?_); refine with_tabW attestorref02_Parse.tab9 attestorref02_Parse.bits9 (fun HT_ HW_ => ?_)
      generalize wr.drew = w11 at HO_4 HB hHeld ⊢
      refine pr_ (i := 0) (N := some 18) (v := ?_) (a' := ?_) (bv 11 1) HT_.out ?_ ?_ ?_; rotate_left 2; (intro w'; go_simp; with_reducible rfl); (simp only [Act.put, s1_, s2_, s3_, i64_w, i32_w]; rfl)
      refine pr_ (i := 3) (N := some 21) (v := ?_) (a' := ?_) (bv 11 9) HT_.out ?_ ?_ ?_; rotate_left 2; (intro w'; go_simp; with_reducible rfl); (simp only [Act.put, s1_, s2_, s3_, i64_w, i32_w]; rfl)
      refine pr_ (i := 4) (N := some 22) (v := ?_) (a' := ?_) (bv 11 25) HT_.out ?_ ?_ ?_; rotate_left 2; (intro w'; go_simp; with_reducible rfl); (simp only [Act.put, s1_, s2_, s3_, i64_w, i32_w]; rfl)
      refine take_ (i := 5) (N := some 23) (v := ?_) (a' := ?_) (bv 11 57) rfl rfl (take_ofW HT_.out HW_.out (by kernel_rfl)) (fun _ _ _ h => h) (Or.inl ⟨by rfl, ?_⟩) hHeld ?_ ?_
      rotate_left
      ·intro w' _
       go_simp
       with_reducible rfl
      rotate_left
      ·simp only [Act.put, s1_, s2_, s3_, i64_w, i32_w]
       rfl
      refine pr_ (i := 6) (N := some 24) (v := ?_) (a' := ?_) (bv 11 121) HT_.out ?_ ?_ ?_; rotate_left 2; (intro w'; go_simp; with_reducible rfl); (simp only [Act.put, s1_, s2_, s3_, i64_w, i32_w]; rfl)
      refine pr_ (i := 7) (N := some 25) (v := ?_) (a' := ?_) (bv 11 249) HT_.out ?_ ?_ ?_; rotate_left 2; (intro w'; go_simp; with_reducible rfl); (simp only [Act.put, s1_, s2_, s3_, i64_w, i32_w]; rfl)
      refine one_ (i := 1) (N := some 19) (bv 11 251) rfl rfl (one_of HT_.out (by kernel_rfl)) (by decide) (fun K hK => ?_)
      refine Kd.R_lit_step (Kd.int .u32) _ 44 ?hg (N := 19) ?hd (xs := ([10] : List Int)) (inner := [.int .u32 10]) (ok := fun _ => True) (okp := fun _ => True) ?hr ?hp (fun _ hk => hk) trivial (Below.refl _ _) (Nat.le_refl _) (by simp) ?_; (case hd => rfl); (case hg => rfl); (case hr => first | (go_simp; done) | (go_simp; rfl)); (case hp => exact (Reps.one (show Kd.M (Kd.int .u32) _ _ _ 10 [.int .u32 10] from rfl) (Reps.none _ _)))
      intro v994 w12 ho13 hb hg_ hnew_
      clear hg_ hnew_
      (first | rw [← Ny993.out] at ho13 | (simp only [Int.reduceToNat] at ho13; rw [← Ny993.out] at ho13))
      refine nx3_ (Kd.R_elder' (rU_ HO_4.out) (Kd.R_base ho13) hb) (Kd.R_lower (Kd.R_new' (Kd.R_newM (M := fun k_ => (w.heap.size ≤ k_)) ho13 (below_size (bU_ HB.out)) (fun k_ h_ => h_)) (Kd.R_lt (rU_ HO_4.out))) (below_size (bU_ HB.out))) (below_step (bU_ HB.out) hb) ?_
      clear HO_4 HB
      intro HO_4 HO995 HB
      clear hb ho13
      obtain ⟨Ao14, co14, eo14⟩ := Kd.R_slice HO_4.out
      (first | subst eo14 | (injection eo14 with f1_ f2_ f3_; have f4_ := f1_.symm; have f5_ := f3_.symm; clear f1_ f2_ f3_; subst f4_; subst f5_))
      obtain ⟨Ao15, co15, eo15⟩ := Kd.R_slice HO995.out
      (first | subst eo15 | (injection eo15 with f1_ f2_ f3_; have f4_ := f1_.symm; have f5_ := f3_.symm; clear f1_ f2_ f3_; subst f4_; subst f5_))
      refine hK.out _ _ trivial (fun hHeld => ?_)
      clear hK K
      refine norm_ (a' := ?_) ?_ ?_
      rotate_left
      ·show Act.put _ (some 19) _ = _
       simp only [Act.put, s1_, s2_, s3_, i64_w, i32_w]
       rfl
      refine one_ (i := 2) (N := some 20) (bv 11 255) rfl rfl (one_of HT_.out (by kernel_rfl)) (by decide) (fun K hK => ?_)
      refine goes_ Tryd.func63 (by kernel_rfl) rfl #[.slice Ao14 x4_1.length co14, .slice Ao15 y993.length co15] (by rfl) rfl rfl ga_ ?_
      with_reducible refine (attestorref02_product.calls k1 _ _ x4_1 _ _ y993 t996 _ ?side1 ?side2 ?side3 ?side4 A6.out).mono ?_
      (case side1 => exact cU_ ((Kd.R_reads' HO_4.out).2.2))
      (case side2 => exact (Kd.R_reads' HO_4.out).2.1)
      (case side3 => exact cU_ ((Kd.R_reads' HO995.out).2.2))
      (case side4 => exact (Kd.R_reads' HO995.out).2.1)
      rintro e w16 ⟨v997, rfl, ho0, hb⟩
      refine ⟨_, rfl, ?_⟩
      refine nx4_ (Kd.R_elder' (rU_ HO_4.out) (Kd.R_base ho0) hb) (Kd.R_elder' (rU_ HO995.out) (Kd.R_base ho0) hb) (Kd.R_lower (Kd.R_new' (Kd.R_new' (Kd.R_newM (M := fun k_ => (w.heap.size ≤ k_)) ho0 (below_size (bU_ HB.out)) (fun k_ h_ => h_)) (Kd.R_lt (rU_ HO_4.out))) (Kd.R_lt (rU_ HO995.out))) (below_size (bU_ HB.out))) (below_step (bU_ HB.out) hb) ?_
      clear HO_4 HO995 HB
      intro HO_4 HO995 HO998 HB
      (try clear hb)
      (try clear hb2)
      (try clear hk)
      (try clear hi)
      (try clear ho0)
      refine hK.out _ _ trivial (fun hHeld => ?_)
      clear hK K
      refine norm_ (a' := ?_) ?_ ?_
      rotate_left
      ·show Act.put _ (some 20) _ = _
       simp only [Act.put, s1_, s2_, s3_, i64_w, i32_w]
       rfl
      refine one_ (i := 8) (N := some 26) (bv 11 511) rfl rfl (one_of HT_.out (by kernel_rfl)) (by decide) (fun K hK => ?_)
      refine goes_ Tryd.func17 (by kernel_rfl) rfl #[.int .u64 (((bt a0 x5_1) - 48) % 256)] (by rfl) rfl rfl (ga_ (by simp only [List.map_toArray, List.map_cons, List.map_nil]; first | rfl | (rw [← u64w_u8]; rfl))) ?_
      with_reducible refine (attestorref02_Nat.calls k1 (((bt a0 x5_1) - 48) % 256) t999 _ A9.out).mono ?_
      rintro e w17 ⟨v1000, rfl, ho0, hb⟩
      refine ⟨_, rfl, ?_⟩
      refine nx5_ (Kd.R_elder' (rU_ HO_4.out) (Kd.R_base ho0) hb) (Kd.R_elder' (rU_ HO995.out) (Kd.R_base ho0) hb) (Kd.R_elder' (rU_ HO998.out) (Kd.R_base ho0) hb) (Kd.R_lower (Kd.R_new' (Kd.R_new' (Kd.R_new' (Kd.R_newM (M := fun k_ => (w.heap.size ≤ k_)) ho0 (below_size (bU_ HB.out)) (fun k_ h_ => h_)) (Kd.R_lt (rU_ HO_4.out))) (Kd.R_lt (rU_ HO995.out))) (Kd.R_lt (rU_ HO998.out))) (below_size (bU_ HB.out))) (below_step (bU_ HB.out) hb) ?_
      clear HO_4 HO995 HO998 HB
      intro HO_4 HO995 HO998 HO1001 HB
      (try clear hb)
      (try clear hb2)
      (try clear hk)
      (try clear hi)
      (try clear ho0)
      obtain ⟨Ao18, co18, eo18⟩ := Kd.R_slice HO998.out
      (first | subst eo18 | (injection eo18 with f1_ f2_ f3_; have f4_ := f1_.symm; have f5_ := f3_.symm; clear f1_ f2_ f3_; subst f4_; subst f5_))
      obtain ⟨Ao19, co19, eo19⟩ := Kd.R_slice HO1001.out
      (first | subst eo19 | (injection eo19 with f1_ f2_ f3_; have f4_ := f1_.symm; have f5_ := f3_.symm; clear f1_ f2_ f3_; subst f4_; subst f5_))
      refine hK.out _ _ trivial (fun hHeld => ?_)
      clear hK K
      refine norm_ (a' := ?_) ?_ ?_
      rotate_left
      ·show Act.put _ (some 26) _ = _
       simp only [Act.put, s1_, s2_, s3_, i64_w, i32_w]
       rfl
      refine one_ (i := 9) (N := some 27) (bv 11 1023) rfl rfl (one_of HT_.out (by kernel_rfl)) (by decide) (fun K hK => ?_)
      refine goes_ Tryd.func62 (by kernel_rfl) rfl #[.slice Ao18 t996.length co18, .slice Ao19 t999.length co19] (by rfl) rfl rfl ga_ ?_
      with_reducible refine (attestorref02_sum.calls k1 _ _ t996 _ _ t999 t1002 _ ?side1 ?side2 ?side3 ?side4 A10.out).mono ?_
      (case side1 => exact cU_ ((Kd.R_reads' HO998.out).2.2))
      (case side2 => exact (Kd.R_reads' HO998.out).2.1)
      (case side3 => exact cU_ ((Kd.R_reads' HO1001.out).2.2))
      (case side4 => exact (Kd.R_reads' HO1001.out).2.1)
      rintro e w20 ⟨v1003, rfl, ho0, hb⟩
      refine ⟨_, rfl, ?_⟩
      refine nx6_ (Kd.R_elder' (rU_ HO_4.out) (Kd.R_base ho0) hb) (Kd.R_elder' (rU_ HO995.out) (Kd.R_base ho0) hb) (Kd.R_elder' (rU_ HO998.out) (Kd.R_base ho0) hb) (Kd.R_elder' (rU_ HO1001.out) (Kd.R_base ho0) hb) (Kd.R_lower (Kd.R_new' (Kd.R_new' (Kd.R_new' (Kd.R_new' (Kd.R_newM (M := fun k_ => (w.heap.size ≤ k_)) ho0 (below_size (bU_ HB.out)) (fun k_ h_ => h_)) (Kd.R_lt (rU_ HO_4.out))) (Kd.R_lt (rU_ HO995.out))) (Kd.R_lt (rU_ HO998.out))) (Kd.R_lt (rU_ HO1001.out))) (below_size (bU_ HB.out))) (below_step (bU_ HB.out) hb) ?_
      clear HO_4 HO995 HO998 HO1001 HB
      intro HO_4 HO995 HO998 HO1001 HO1004 HB
      (try clear hb)
      (try clear hb2)
      (try clear hk)
      (try clear hi)
      (try clear ho0)
      refine hK.out _ _ trivial (fun hHeld => ?_)
      clear hK K
      refine norm_ (a' := ?_) ?_ ?_
      rotate_left
      ·show Act.put _ (some 27) _ = _
       simp only [Act.put, s1_, s2_, s3_, i64_w, i32_w]
       rfl
      refine pr_ (i := 10) (N := some 4) (v := ?_) (a' := ?_) (bv 11 2047) HT_.out ?_ ?_ ?_; rotate_left 2; (intro w'; go_simp; with_reducible rfl); (simp only [Act.put, s1_, s2_, s3_, i64_w, i32_w]; rfl)
      refine done_ (done_of HT_.out (by kernel_rfl)) ?_
      try go_wp2
      go_roundg k1
      case measure => have := HK1.out; omega
      case rel => exact ⟨(t1002), (wrap64 (x5_1 + 1)), gb_, H', ⟨by have := HK1.out; omega⟩, ⟨Kd.R_mono (rU_ HO1004.out) (fun _ hk => hk.1.1.1.1.1)⟩, ⟨bU_ HB.out⟩⟩
     ·rw [if_neg c5] at H
      have c5b0 := decide_eq_false c5
      clear c5
      revert H
      refine bd2_ fun t1005 t1008 A21 H => ?_
      try dsimp only at H
      simp only [Option.some.injEq, Prod.mk.injEq] at H
      obtain ⟨rfl, rfl⟩ := H
      obtain ⟨Ao22, co22, eo22⟩ := Kd.R_slice HO_4.out
      subst eo22
      go_wp2_with (first | ((with_reducible refine gate_callee (f := 64) rfl ?_); refine gl_ (some 29) Tryd.func64 #[.slice Ao22 x4_1.length co22] ?_; (with_reducible refine (attestorref02_bounded.calls (fun k_ => some k_ = (.slice Ao22 x4_1.length co22 : Value).ownBlock) _ _ x4_1 t1005 t1008 _ ?side1 A21.out).mono ?_); (case side1 => exact Kd.R_V (Kd.R_tight rfl (HO_4.out))); rintro e w23 ⟨v1006, rfl, ho0, hb⟩; refine ⟨_, rfl, ?_⟩; refine nx3_ (Kd.R_below (rU_ HO_4.out) hb) (Kd.V_lower (Kd.V_mono (ok' := fun k_ => (w.heap.size ≤ k_)) ho0 (fun k_ hk_ => Or.elim hk_ (fun hs_ => ((HO_4.out).1 k_ hs_.symm)) (fun hn_ => (Nat.le_trans (below_size (bU_ HB.out)) hn_)))) (below_size (bU_ HB.out))) (below_step (bU_ HB.out) hb) ?_; clear HO_4 HB; intro HO_4 HO1007 HB; clear hb ho0))
      go_ret2
      exact ⟨_, by first | rfl | (simp [errW_none, errW_some] <;> rfl) | (simp [*, errW_none, errW_some] <;> rfl), by (with_reducible repeat (first | apply Kd.V_alloc | apply Kd.V_drewN | apply Kd.V_drew)); exact HO1007.out, bU_ HB.out⟩
 ·replace c3 := Bool.eq_false_iff.mpr c3
  subst c3
  rw [if_neg (show ¬ (false = true) by decide)] at H
  simp only [Option.some.injEq, Prod.mk.injEq] at H
  obtain ⟨rfl, rfl⟩ := H
  go_enter Tryd.func12, Tryd.ntmps12
  go_wp2_with (first | ((with_reducible refine gate_callee (f := 61) rfl ?_); refine gl_ (some 7) Tryd.func61 #[.string a0] ?_; (with_reducible refine (attestorref02_natural.calls k a0 false _ A2.out).mono ?_); rintro e w' ⟨rfl, ⟨nd, rfl⟩⟩; refine ⟨_, rfl, ?_⟩))
  go_ret2
  exact ⟨_, by first | rfl | (simp [errW_none, errW_some] <;> rfl) | (simp [*, errW_none, errW_some] <;> rfl), Kd.V_nil _ _ _ _ _, bU_ HB.out⟩

/-! ### attestorref02_Read: function 14 -/
mutual
def attestorref02_Read.j1 : Nat → ByteArray → Int → Option (List Int × List Int × Int)
 | 0, _, _ => none
 | k + 1, x0, x4 => if x4 = (x0.size : Int) then (attestorref02_Read.j2 k x0 x4 true) else (if 0 ≤ x4 then (if x4 ≤ (x0.size : Int) then ((attestorref02_natural.f k (x0.extract 0 (x4 : Int).toNat)).bind fun t1120 => (if t1120 = true then (if 0 ≤ (wrap64 (x4 + 1)) then (if (wrap64 (x4 + 1)) ≤ (x0.size : Int) then ((attestorref02_natural.f k (x0.extract ((wrap64 (x4 + 1)) : Int).toNat x0.size)).bind fun t1121 => (attestorref02_Read.j2 k x0 x4 (!t1121))) else (none)) else (none)) else (attestorref02_Read.j2 k x0 x4 true))) else (none)) else (none))
def attestorref02_Read.j2 : Nat → ByteArray → Int → Bool → Option (List Int × List Int × Int)
 | 0, _, _, _ => none
 | k + 1, x0, x4, x38 => if x38 = true then (some (([] : List Int), ([] : List Int), 4)) else (if 0 ≤ x4 then (if x4 ≤ (x0.size : Int) then ((attestorref02_Parse.f k (x0.extract 0 (x4 : Int).toNat)).bind fun bt1122 => (if bt1122.2 = 0 then (if 0 ≤ (wrap64 (x4 + 1)) then (if (wrap64 (x4 + 1)) ≤ (x0.size : Int) then ((attestorref02_Parse.f k (x0.extract ((wrap64 (x4 + 1)) : Int).toNat x0.size)).bind fun bt1126 => (if bt1126.2 = 0 then ((attestorref02_New.f k bt1122.1 bt1126.1).bind fun bt1130 => (some (bt1130.1, bt1130.2.1, bt1130.2.2))) else (some (([] : List Int), ([] : List Int), bt1126.2)))) else (none)) else (none)) else (some (([] : List Int), ([] : List Int), bt1122.2)))) else (none)) else (none))
def attestorref02_Read.l0 : Nat → ByteArray → Int → Option (List Int × List Int × Int)
 | 0, _, _ => none
 | k + 1, x0, x4 => if x4 < (x0.size : Int) then (if 0 ≤ x4 then (if (bt x0 x4) = 47 then (attestorref02_Read.j1 k x0 x4) else (attestorref02_Read.l0 k x0 (wrap64 (x4 + 1)))) else (none)) else (attestorref02_Read.j1 k x0 x4)
end
def attestorref02_Read.f (k : Nat) (a0 : ByteArray) : Option (List Int × List Int × Int) := attestorref02_Read.l0 k a0 0
set_option maxHeartbeats 8000000 in
set_option maxRecDepth 100000 in
theorem attestorref02_Read.calls (k : Nat) (a0 : ByteArray) (r1 : List Int) (r2 : List Int) (r3 : Int) (w : World) (h : attestorref02_Read.f k a0 = some (r1, r2, r3)) :
  Calls Tryd.prog 14 #[.string a0] w fun e w' => ∃ v0_ v1_ : Value, e = .returned (.tuple #[.agg #[v0_, v1_], .int .i64 r3]) ∧ Kd.R (Kd.int .u32) 44 w' w.heap.size (fun k_ => some k_ ≠ (v1_ : Value).ownBlock) v0_ r1 ∧ Kd.R (Kd.int .u32) 44 w' w.heap.size (fun k_ => some k_ ≠ (v0_ : Value).ownBlock) v1_ r2 ∧ Below w.heap.size w w' := by
 have hu29 := Tryd.underlying29
 have HB := ak (Below.refl w.heap.size w)
 have H : (attestorref02_Read.l0 k a0 0) = some (r1, r2, r3) := h
 clear h
 have HC2 := ak H
 clear H
 go_enter Tryd.func14, Tryd.ntmps14
 go_upto_block 0 with (first | ((with_reducible refine gate_dst (N := 2) rfl ?_); refine box_event ?hg (N := 2) ?hd (cs := #[.slice none 0 0, .slice none 0 0]) (t := 29) ?hr ?_; (case hd => rfl); (case hg => rfl); (case hr => first | (go_simp; done) | (go_simp; rfl)); intro gb1119 hg w3 hbox hb; refine nx4_ (below_step (bU_ HB.out) hb) (hbox) ((by rw [hg]; exact (below_size (bU_ HB.out)) : w.heap.size ≤ gb1119)) ((by rw [hg]; exact (below_size (bU_ HB.out)) : w.heap.size ≤ gb1119)) ?_; clear HB; intro HB BK1119 GW1119 GE1119; clear hb hbox hg))
 (try simp only [Act.put, s1_, s2_, s3_])
 go_cut [4] (fun v4 wc => ∃ (kq : Nat) (x4_1 : Int), v4 = .int .i64 x4_1 ∧ Aside0 (attestorref02_Read.j1 kq a0 x4_1 = some (r1, r2, r3)) ∧ Aside0 (kq ≤ k) ∧ Aside0 (wc.heap[gb1119]? = some (.cells #[(.slice none 0 0), (.slice none 0 0)] 29 (0, 0))) ∧ Aside0 (Below w.heap.size w wc))
 case first =>
  have H := HC2.out
  clear HC2
  have H' := ak H
  clear H
  go_wp2
  go_loopg [4] k (fun kq v4 w' => ∃ (x4_1 : Int), v4 = .int .i64 x4_1 ∧ Aside0 (attestorref02_Read.l0 kq a0 x4_1 = some (r1, r2, r3)) ∧ Aside0 (kq ≤ k) ∧ Aside0 (w'.heap[gb1119]? = some (.cells #[(.slice none 0 0), (.slice none 0 0)] 29 (0, 0))) ∧ Aside0 (Below w.heap.size w w'))
  case atStart => exact ⟨(0), gb_, H', ⟨Nat.le_refl _⟩, ⟨by (with_reducible repeat (first | refine blk_drewN ?_ _ | refine blk_drew ?_ | refine blk_alloc ?_ _)); exact BK1119.out⟩, ⟨by repeat (first | (with_reducible first | exact HB.out | apply below_alloc | apply pw_below_drewN | apply below_drew1 | refine below_set ?_ GE1119.out) | exact HB.out)⟩⟩
  case round =>
   clear H'
   (try clear c1); (try clear p2)
   obtain ⟨x4_1, rfl, HA, HK1, BK1119, HB⟩ := hrel
   cases gk with
   | zero => exact absurd HA.out (by simp [attestorref02_Read.l0])
   | succ k1 =>
    have H := HA.out
    clear HA
    simp only [attestorref02_Read.l0] at H
    by_cases c4 : x4_1 < (a0.size : Int)
    ·rw [if_pos c4] at H
     have c4b0 := decide_eq_true c4
     clear c4
     (first | rw [c4b0] | (simp only [i64_w, i32_w]; rw [c4b0]) | rw [c4b1] | skip)
     obtain ⟨c5, H⟩ : (0 ≤ x4_1) ∧ _ := it_ H
     have c5b0 := decide_eq_true c5
     clear c5
     by_cases c7 : (bt a0 x4_1) = 47
     ·rw [if_pos c7] at H
      have c7b0 := beq_iff_eq.mpr c7
      have c7b1 := bne_eq_false_iff_eq.mpr c7
      clear c7
      have H' := ak H
      clear H
      have p6 : 0 ≤ (x4_1 : Int) := od_
      have q6 : x4_1 < (a0.size : Int) := od_
      have hx6 := bt_at a0 x4_1
      replace p6 := eq_true p6
      replace q6 := eq_true q6
      go_wp2
      go_meet
      case rel => exact ⟨_, (x4_1), gb_, H', ⟨by have := HK1.out; first | omega | exact Nat.le_refl _⟩, ⟨by (with_reducible repeat (first | refine blk_drewN ?_ _ | refine blk_drew ?_ | refine blk_alloc ?_ _)); exact BK1119.out⟩, ⟨by repeat (first | (with_reducible first | exact HB.out | apply below_alloc | apply pw_below_drewN | apply below_drew1 | refine below_set ?_ GE1119.out) | exact HB.out)⟩⟩
     ·rw [if_neg c7] at H
      have c7b0 := beq_eq_false_iff_ne.mpr c7
      have c7b1 := bne_iff_ne.mpr c7
      have H' := ak H
      clear H
      have p6 : 0 ≤ (x4_1 : Int) := od_
      have q6 : x4_1 < (a0.size : Int) := od_
      have hx6 := bt_at a0 x4_1
      replace p6 := eq_true p6
      replace q6 := eq_true q6
      go_wp2
      go_roundg k1
      case measure => have := HK1.out; omega
      case rel => exact ⟨(wrap64 (x4_1 + 1)), gb_, H', ⟨by have := HK1.out; omega⟩, ⟨by (with_reducible repeat (first | refine blk_drewN ?_ _ | refine blk_drew ?_ | refine blk_alloc ?_ _)); exact BK1119.out⟩, ⟨by repeat (first | (with_reducible first | exact HB.out | apply below_alloc | apply pw_below_drewN | apply below_drew1 | refine below_set ?_ GE1119.out) | exact HB.out)⟩⟩
    ·rw [if_neg c4] at H
     have c4b0 := decide_eq_false c4
     clear c4
     (first | rw [c4b0] | (simp only [i64_w, i32_w]; rw [c4b0]) | rw [c4b1] | skip)
     have H' := ak H
     clear H
     go_wp2
     go_meet
     case rel => exact ⟨_, (x4_1), gb_, H', ⟨by have := HK1.out; first | omega | exact Nat.le_refl _⟩, ⟨by (with_reducible repeat (first | refine blk_drewN ?_ _ | refine blk_drew ?_ | refine blk_alloc ?_ _)); exact BK1119.out⟩, ⟨by repeat (first | (with_reducible first | exact HB.out | apply below_alloc | apply pw_below_drewN | apply below_drew1 | refine below_set ?_ GE1119.out) | exact HB.out)⟩⟩
 case rest =>
  clear HC2
  (try clear c1); (try clear p2); (try clear c4); (try clear c4b0); (try clear c4b1); (try clear c5); (try clear c5b0); (try clear p6); (try clear q6); (try clear hx6); (try clear c7); (try clear c7b0); (try clear c7b1)
  obtain ⟨kq, x4_1, rfl, HA, HJ1, BK1119, HB⟩ := hcut
  cases kq with
  | zero => exact absurd HA.out (by simp [attestorref02_Read.j1])
  | succ kj1 =>
   have H := HA.out
   clear HA
   simp only [attestorref02_Read.j1] at H
   have HC8 := ak H
   clear H
   go_upto_region 4 with (fail)
   go_cut [38] (fun v38 wc => ∃ (kq : Nat) (x38_7 : Bool), v38 = .bool x38_7 ∧ Aside0 (attestorref02_Read.j2 kq a0 x4_1 x38_7 = some (r1, r2, r3)) ∧ Aside0 (kq ≤ kj1) ∧ Aside0 (wc.heap[gb1119]? = some (.cells #[(.slice none 0 0), (.slice none 0 0)] 29 (0, 0))) ∧ Aside0 (Below w.heap.size w wc))
   case first =>
    have H := HC8.out
    clear HC8
    by_cases c9 : x4_1 = (a0.size : Int)
    ·rw [if_pos c9] at H
     have c9b0 := beq_iff_eq.mpr c9
     have c9b1 := bne_eq_false_iff_eq.mpr c9
     clear c9
     (first | rw [c9b0] | (simp only [i64_w, i32_w]; rw [c9b0]) | rw [c9b1] | skip)
     have H' := ak H
     clear H
     go_wp2
     go_meet
     case rel => exact ⟨_, (true), gb_, H', ⟨by have := HJ1.out; first | omega | exact Nat.le_refl _⟩, ⟨by (with_reducible repeat (first | refine blk_drewN ?_ _ | refine blk_drew ?_ | refine blk_alloc ?_ _)); exact BK1119.out⟩, ⟨by repeat (first | (with_reducible first | exact HB.out | apply below_alloc | apply pw_below_drewN | apply below_drew1 | refine below_set ?_ GE1119.out) | exact HB.out)⟩⟩
    ·rw [if_neg c9] at H
     have c9b0 := beq_eq_false_iff_ne.mpr c9
     have c9b1 := bne_iff_ne.mpr c9
     (first | rw [c9b0] | (simp only [i64_w, i32_w]; rw [c9b0]) | rw [c9b1] | skip)
     obtain ⟨c10, H⟩ : (0 ≤ x4_1) ∧ _ := it_ H
     have c10b0 := eq_true c10
     have c10b1 := decide_eq_true c10
     clear c10
     obtain ⟨c11, H⟩ : (x4_1 ≤ (a0.size : Int)) ∧ _ := it_ H
     have c11b0 := eq_true c11
     have c11b1 := decide_eq_true c11
     clear c11
     revert H
     refine bd_ fun t1120 A12 H => ?_
     by_cases c13 : t1120 = true
     ·subst c13
      rw [if_pos rfl] at H
      obtain ⟨ji14, hji14⟩ : ∃ j_ : Int, (wrap64 (x4_1 + 1)) = j_ := ⟨_, rfl⟩
      first | rw [hji14] at H | simp only [hji14] at H
      (try rw [hji14] at A12)
      have hji14w : (IntKind.i64.wrap (x4_1 + 1)) = ji14 := (i64_w _).trans hji14
      obtain ⟨c15, H⟩ : (0 ≤ (ji14)) ∧ _ := it_ H
      have c15b0 := eq_true c15
      have c15b1 := decide_eq_true c15
      clear c15
      obtain ⟨c16, H⟩ : ((ji14) ≤ (a0.size : Int)) ∧ _ := it_ H
      have c16b0 := eq_true c16
      have c16b1 := decide_eq_true c16
      clear c16
      revert H
      refine bd_ fun t1121 A17 H => ?_
      have H' := ak H
      clear H
      go_wp2_with (first | (go_at_call 61; (with_reducible refine (attestorref02_natural.calls kj1 (a0.extract 0 (x4_1 : Int).toNat) true _ A12.out).mono ?_); rintro e w' ⟨rfl, ⟨nd, rfl⟩⟩) | (go_at_call 61; (with_reducible refine (attestorref02_natural.calls kj1 (a0.extract ((ji14) : Int).toNat a0.size) t1121 _ A17.out).mono ?_); rintro e w' ⟨rfl, ⟨nd, rfl⟩⟩))
      go_meet
      case rel => exact ⟨_, (!t1121), gb_, H', ⟨by have := HJ1.out; first | omega | exact Nat.le_refl _⟩, ⟨by (with_reducible repeat (first | refine blk_drewN ?_ _ | refine blk_drew ?_ | refine blk_alloc ?_ _)); exact BK1119.out⟩, ⟨by repeat (first | (with_reducible first | exact HB.out | apply below_alloc | apply pw_below_drewN | apply below_drew1 | refine below_set ?_ GE1119.out) | exact HB.out)⟩⟩
     ·replace c13 := Bool.eq_false_iff.mpr c13
      subst c13
      rw [if_neg (show ¬ (false = true) by decide)] at H
      have H' := ak H
      clear H
      go_wp2_with (first | (go_at_call 61; (with_reducible refine (attestorref02_natural.calls kj1 (a0.extract 0 (x4_1 : Int).toNat) false _ A12.out).mono ?_); rintro e w' ⟨rfl, ⟨nd, rfl⟩⟩))
      go_meet
      case rel => exact ⟨_, (true), gb_, H', ⟨by have := HJ1.out; first | omega | exact Nat.le_refl _⟩, ⟨by (with_reducible repeat (first | refine blk_drewN ?_ _ | refine blk_drew ?_ | refine blk_alloc ?_ _)); exact BK1119.out⟩, ⟨by repeat (first | (with_reducible first | exact HB.out | apply below_alloc | apply pw_below_drewN | apply below_drew1 | refine below_set ?_ GE1119.out) | exact HB.out)⟩⟩
   case rest =>
    clear HC8
    (try clear c1); (try clear p2); (try clear c4); (try clear c4b0); (try clear c4b1); (try clear c5); (try clear c5b0); (try clear p6); (try clear q6); (try clear hx6); (try clear c7); (try clear c7b0); (try clear c7b1); (try clear c9); (try clear c9b0); (try clear c9b1); (try clear c10); (try clear c10b0); (try clear c10b1); (try clear c11); (try clear c11b0); (try clear c11b1); (try clear c13); (try clear c14); (try clear c15); (try clear c15b0); (try clear c15b1); (try clear c16); (try clear c16b0); (try clear c16b1)
    obtain ⟨kq, x38_7, rfl, HA, HJ7, BK1119, HB⟩ := hcut
    cases kq with
    | zero => exact absurd HA.out (by simp [attestorref02_Read.j2])
    | succ kj7 =>
     have H := HA.out
     clear HA
     simp only [attestorref02_Read.j2] at H
     by_cases c18 : x38_7 = true
     ·subst c18
      rw [if_pos rfl] at H
      simp only [Option.some.injEq, Prod.mk.injEq] at H
      obtain ⟨rfl, rfl, rfl⟩ := H
      have hcz19_0 : wc.cell? ⟨gb1119, 0, none⟩ = some (.slice none 0 0) := (blk_cell BK1119.out 0).trans rfl
      have hcz19_1 : wc.cell? ⟨gb1119, 1, none⟩ = some (.slice none 0 0) := (blk_cell BK1119.out 1).trans rfl
      have hfz19_0 := blk_frozen BK1119.out 0
      have hfz19_1 := blk_frozen BK1119.out 1
      go_wp2
      refine bodyPost_ret (results_ct rfl _ _ gb1119 29 #[.slice none 0 0, .slice none 0 0] (0, 0) _ rfl (by (with_reducible repeat (first | refine blk_drewN ?_ _ | refine blk_drew ?_ | refine blk_alloc ?_ _)); refine blk_put (cs := #[.slice none 0 0, .slice none 0 0]) ?_ 1 _ rfl; (with_reducible repeat (first | refine blk_drewN ?_ _ | refine blk_drew ?_ | refine blk_alloc ?_ _)); refine blk_put (cs := #[.slice none 0 0, .slice none 0 0]) ?_ 0 _ rfl; (with_reducible repeat (first | refine blk_drewN ?_ _ | refine blk_drew ?_ | refine blk_alloc ?_ _)); exact BK1119.out) Tryd.underlying29 rfl (by kernel_rfl)) rfl ?_
      exact ⟨_, _, by first | rfl | (simp [errW_none, errW_some] <;> rfl) | (simp [*, errW_none, errW_some] <;> rfl), by first | exact Kd.R_nil _ _ _ _ _ | exact Kd.N_nil _ _ _ _ _ | exact Kd.V_nil _ _ _ _ _ | exact Kd.Q_nil _ _ _ _ _ | exact Kd.S_nil _ _ _ _ _, by first | exact Kd.R_nil _ _ _ _ _ | exact Kd.N_nil _ _ _ _ _ | exact Kd.V_nil _ _ _ _ _ | exact Kd.Q_nil _ _ _ _ _ | exact Kd.S_nil _ _ _ _ _, by repeat (first | (with_reducible first | exact HB.out | apply below_alloc | apply pw_below_drewN | apply below_drew1 | refine below_set ?_ GE1119.out) | exact HB.out)⟩
     ·replace c18 := Bool.eq_false_iff.mpr c18
      subst c18
      rw [if_neg (show ¬ (false = true) by decide)] at H
      obtain ⟨c20, H⟩ : (0 ≤ x4_1) ∧ _ := it_ H
      have c20b0 := eq_true c20
      have c20b1 := decide_eq_true c20
      clear c20
      obtain ⟨c21, H⟩ : (x4_1 ≤ (a0.size : Int)) ∧ _ := it_ H
      have c21b0 := eq_true c21
      have c21b1 := decide_eq_true c21
      clear c21
      revert H
      refine bd2_ fun t1122 t1125 A22 H => ?_
      try dsimp only at H
      by_cases c23 : t1125 = 0
      ·rw [if_pos c23] at H
       have c23b0 := beq_iff_eq.mpr c23
       have c23b1 := bne_eq_false_iff_eq.mpr c23
       clear c23
       obtain ⟨ji24, hji24⟩ : ∃ j_ : Int, (wrap64 (x4_1 + 1)) = j_ := ⟨_, rfl⟩
       first | rw [hji24] at H | simp only [hji24] at H
       (try rw [hji24] at A22)
       have hji24w : (IntKind.i64.wrap (x4_1 + 1)) = ji24 := (i64_w _).trans hji24
       obtain ⟨c25, H⟩ : (0 ≤ (ji24)) ∧ _ := it_ H
       have c25b0 := eq_true c25
       have c25b1 := decide_eq_true c25
       clear c25
       obtain ⟨c26, H⟩ : ((ji24) ≤ (a0.size : Int)) ∧ _ := it_ H
       have c26b0 := eq_true c26
       have c26b1 := decide_eq_true c26
       clear c26
       revert H
       refine bd2_ fun t1126 t1129 A27 H => ?_
       try dsimp only at H
       by_cases c28 : t1129 = 0
       ·rw [if_pos c28] at H
        have c28b0 := beq_iff_eq.mpr c28
        have c28b1 := bne_eq_false_iff_eq.mpr c28
        clear c28
        revert H
        refine bd3_ fun t1130 t1133 t1136 A29 H => ?_
        try dsimp only at H
        simp only [Option.some.injEq, Prod.mk.injEq] at H
        obtain ⟨rfl, rfl, rfl⟩ := H
        go_wp2_with (first | ((with_reducible refine gate_callee (f := 12) rfl ?_); refine gl_ (some 44) Tryd.func12 #[.string (a0.extract 0 (x4_1 : Int).toNat)] ?_; (with_reducible refine (attestorref02_Parse.calls kj7 (a0.extract 0 (x4_1 : Int).toNat) t1122 t1125 _ A22.out).mono ?_); rintro e w30 ⟨v1123, rfl, ho0, hb⟩; refine ⟨_, rfl, ?_⟩; refine nx3_ (Kd.V_lower (Kd.V_mono (ok' := fun k_ => k_ ≠ gb1119) ho0 (fun k_ hk_ => (Kd.freshB (g := gb1119) (o := .cells #[.slice none 0 0, .slice none 0 0] 29 (0, 0)) (by (with_reducible repeat (first | refine blk_drewN ?_ _ | refine blk_drew ?_ | refine blk_alloc ?_ _)); exact BK1119.out) k_ hk_))) (below_size (by repeat (first | (with_reducible first | exact HB.out | apply below_alloc | apply pw_below_drewN | apply below_drew1 | refine below_set ?_ GE1119.out) | exact HB.out)))) (blk_below (g := gb1119) (o := .cells #[.slice none 0 0, .slice none 0 0] 29 (0, 0)) (by (with_reducible repeat (first | refine blk_drewN ?_ _ | refine blk_drew ?_ | refine blk_alloc ?_ _)); exact BK1119.out) hb) (below_step (by repeat (first | (with_reducible first | exact HB.out | apply below_alloc | apply pw_below_drewN | apply below_drew1 | refine below_set ?_ GE1119.out) | exact HB.out)) hb) ?_; clear BK1119 HB; intro HO1124 BK1119 HB; clear hb ho0) | ((with_reducible refine gate_callee (f := 12) rfl ?_); refine goesL_ (some 56) rfl rfl Tryd.func12 (by kernel_rfl) rfl #[.string (a0.extract ((ji24) : Int).toNat a0.size)] rfl (by (try simp only [List.map_toArray, List.map_cons, List.map_nil]); first | done | (simp only [hji24]; rfl) | rfl | (simp only [List.length_drop, List.length_take]; rfl)) ?_; (with_reducible refine (attestorref02_Parse.calls kj7 (a0.extract ((ji24) : Int).toNat a0.size) t1126 t1129 _ A27.out).mono ?_); rintro e w31 ⟨v1127, rfl, ho0, hb⟩; refine ⟨_, rfl, ?_⟩; refine nx4_ (Kd.V_below (by (with_reducible repeat (first | apply Kd.V_alloc | apply Kd.V_drewN | apply Kd.V_drew)); exact HO1124.out) hb) (Kd.V_lower (Kd.V_mono (ok' := fun k_ => k_ ≠ gb1119) ho0 (fun k_ hk_ => (Kd.freshB (g := gb1119) (o := .cells #[.slice none 0 0, .slice none 0 0] 29 (0, 0)) (by (with_reducible repeat (first | refine blk_drewN ?_ _ | refine blk_drew ?_ | refine blk_alloc ?_ _)); exact BK1119.out) k_ hk_))) (below_size (by repeat (first | (with_reducible first | exact HB.out | apply below_alloc | apply pw_below_drewN | apply below_drew1 | refine below_set ?_ GE1119.out) | exact HB.out)))) (blk_below (g := gb1119) (o := .cells #[.slice none 0 0, .slice none 0 0] 29 (0, 0)) (by (with_reducible repeat (first | refine blk_drewN ?_ _ | refine blk_drew ?_ | refine blk_alloc ?_ _)); exact BK1119.out) hb) (below_step (by repeat (first | (with_reducible first | exact HB.out | apply below_alloc | apply pw_below_drewN | apply below_drew1 | refine below_set ?_ GE1119.out) | exact HB.out)) hb) ?_; clear HO1124 BK1119 HB; intro HO1124 HO1128 BK1119 HB; clear hb ho0; obtain ⟨Ao32, co32, eo32⟩ := Kd.V_slice HO1124.out; subst eo32; obtain ⟨Ao33, co33, eo33⟩ := Kd.V_slice HO1128.out; subst eo33) | ((with_reducible refine gate_callee (f := 41) rfl ?_); refine gl_ (some 65) Tryd.func41 #[.slice Ao32 t1122.length co32, .slice Ao33 t1126.length co33] ?_; (with_reducible refine (attestorref02_New.calls kj7 _ _ t1122 _ _ t1126 t1130 t1133 t1136 _ ?side1 ?side2 ?side3 ?side4 A29.out).mono ?_); (case side1 => exact cU_ ((Kd.V_reads' HO1124.out).2.2)); (case side2 => exact (Kd.V_reads' HO1124.out).2.1); (case side3 => exact cU_ ((Kd.V_reads' HO1128.out).2.2)); (case side4 => exact (Kd.V_reads' HO1128.out).2.1); rintro e w34 ⟨v1131, v1134, rfl, ho0, ho1, hb⟩; refine ⟨_, rfl, ?_⟩; refine nx6_ (Kd.V_mono (Kd.V_told (Kd.V_told (Kd.V_old (by (with_reducible repeat (first | apply Kd.V_alloc | apply Kd.V_drewN | apply Kd.V_drew)); exact HO1124.out) hb) (Kd.R_base ho0)) (Kd.R_base ho1)) (fun _ h_ => h_.1)) (Kd.V_mono (Kd.V_told (Kd.V_told (Kd.V_old (by (with_reducible repeat (first | apply Kd.V_alloc | apply Kd.V_drewN | apply Kd.V_drew)); exact HO1128.out) hb) (Kd.R_base ho0)) (Kd.R_base ho1)) (fun _ h_ => h_.1)) (Kd.R_lower ho0 (below_size (by repeat (first | (with_reducible first | exact HB.out | apply below_alloc | apply pw_below_drewN | apply below_drew1 | refine below_set ?_ GE1119.out) | exact HB.out)))) (Kd.R_lower ho1 (below_size (by repeat (first | (with_reducible first | exact HB.out | apply below_alloc | apply pw_below_drewN | apply below_drew1 | refine below_set ?_ GE1119.out) | exact HB.out)))) (blk_below (g := gb1119) (o := .cells #[.slice none 0 0, .slice none 0 0] 29 (0, 0)) (by (with_reducible repeat (first | refine blk_drewN ?_ _ | refine blk_drew ?_ | refine blk_alloc ?_ _)); exact BK1119.out) hb) (below_step (by repeat (first | (with_reducible first | exact HB.out | apply below_alloc | apply pw_below_drewN | apply below_drew1 | refine below_set ?_ GE1119.out) | exact HB.out)) hb) ?_; clear HO1124 HO1128 BK1119 HB; intro HO1124 HO1128 HO1132 HO1135 BK1119 HB; clear hb ho0 ho1; obtain ⟨Ao35, co35, eo35⟩ := Kd.R_slice HO1132.out; subst eo35; have hcz36_0 : w34.cell? ⟨gb1119, 0, none⟩ = some (.slice none 0 0) := (blk_cell BK1119.out 0).trans rfl; have hcz36_1 : w34.cell? ⟨gb1119, 1, none⟩ = some (.slice none 0 0) := (blk_cell BK1119.out 1).trans rfl; have hfz36_0 := blk_frozen BK1119.out 0; have hfz36_1 := blk_frozen BK1119.out 1; obtain ⟨Ao37, co37, eo37⟩ := Kd.R_slice HO1135.out; subst eo37))
        refine bodyPost_ret (results_ct rfl _ _ gb1119 29 #[.slice Ao35 t1130.length co35, .slice Ao37 t1133.length co37] (0, 0) _ rfl (by (with_reducible repeat (first | refine blk_drewN ?_ _ | refine blk_drew ?_ | refine blk_alloc ?_ _)); refine blk_put (cs := #[.slice Ao35 t1130.length co35, .slice none 0 0]) ?_ 1 _ rfl; (with_reducible repeat (first | refine blk_drewN ?_ _ | refine blk_drew ?_ | refine blk_alloc ?_ _)); refine blk_put (cs := #[.slice none 0 0, .slice none 0 0]) ?_ 0 _ rfl; (with_reducible repeat (first | refine blk_drewN ?_ _ | refine blk_drew ?_ | refine blk_alloc ?_ _)); exact BK1119.out) Tryd.underlying29 rfl (by kernel_rfl)) rfl ?_
        exact ⟨_, _, by first | rfl | (simp [errW_none, errW_some] <;> rfl) | (simp only [← hji24]; first | rfl | (simp [errW_none, errW_some] <;> rfl)) | (simp [*, errW_none, errW_some] <;> rfl), by (with_reducible repeat (first | apply Kd.R_alloc | apply Kd.R_drewN | apply Kd.R_drew)); exact Kd.R_mono (Kd.R_far (p := ⟨gb1119, 1, none⟩) (Kd.R_far (p := ⟨gb1119, 0, none⟩) (Kd.R_types HO1132.out BK1119.out (by decide)) (fun _ hk => hk.2) (.slice Ao35 t1130.length co35)) (fun _ hk => hk.2) (.slice Ao37 t1133.length co37)) (fun _ hk => hk.1), by (with_reducible repeat (first | apply Kd.R_alloc | apply Kd.R_drewN | apply Kd.R_drew)); exact Kd.R_mono (Kd.R_far (p := ⟨gb1119, 1, none⟩) (Kd.R_far (p := ⟨gb1119, 0, none⟩) (Kd.R_types HO1135.out BK1119.out (by decide)) (fun _ hk => hk.2) (.slice Ao35 t1130.length co35)) (fun _ hk => hk.2) (.slice Ao37 t1133.length co37)) (fun _ hk => hk.1), by repeat (first | (with_reducible first | exact HB.out | apply below_alloc | apply pw_below_drewN | apply below_drew1 | refine below_set ?_ GE1119.out) | exact HB.out)⟩
       ·rw [if_neg c28] at H
        have c28b0 := beq_eq_false_iff_ne.mpr c28
        have c28b1 := bne_iff_ne.mpr c28
        simp only [Option.some.injEq, Prod.mk.injEq] at H
        obtain ⟨rfl, rfl, rfl⟩ := H
        go_wp2_with (first | ((with_reducible refine gate_callee (f := 12) rfl ?_); refine gl_ (some 44) Tryd.func12 #[.string (a0.extract 0 (x4_1 : Int).toNat)] ?_; (with_reducible refine (attestorref02_Parse.calls kj7 (a0.extract 0 (x4_1 : Int).toNat) t1122 t1125 _ A22.out).mono ?_); rintro e w38 ⟨v1123, rfl, ho0, hb⟩; refine ⟨_, rfl, ?_⟩; refine nx3_ (Kd.V_lower (Kd.V_mono (ok' := fun k_ => k_ ≠ gb1119) ho0 (fun k_ hk_ => (Kd.freshB (g := gb1119) (o := .cells #[.slice none 0 0, .slice none 0 0] 29 (0, 0)) (by (with_reducible repeat (first | refine blk_drewN ?_ _ | refine blk_drew ?_ | refine blk_alloc ?_ _)); exact BK1119.out) k_ hk_))) (below_size (by repeat (first | (with_reducible first | exact HB.out | apply below_alloc | apply pw_below_drewN | apply below_drew1 | refine below_set ?_ GE1119.out) | exact HB.out)))) (blk_below (g := gb1119) (o := .cells #[.slice none 0 0, .slice none 0 0] 29 (0, 0)) (by (with_reducible repeat (first | refine blk_drewN ?_ _ | refine blk_drew ?_ | refine blk_alloc ?_ _)); exact BK1119.out) hb) (below_step (by repeat (first | (with_reducible first | exact HB.out | apply below_alloc | apply pw_below_drewN | apply below_drew1 | refine below_set ?_ GE1119.out) | exact HB.out)) hb) ?_; clear BK1119 HB; intro HO1124 BK1119 HB; clear hb ho0) | ((with_reducible refine gate_callee (f := 12) rfl ?_); refine goesL_ (some 56) rfl rfl Tryd.func12 (by kernel_rfl) rfl #[.string (a0.extract ((ji24) : Int).toNat a0.size)] rfl (by (try simp only [List.map_toArray, List.map_cons, List.map_nil]); first | done | (simp only [hji24]; rfl) | rfl | (simp only [List.length_drop, List.length_take]; rfl)) ?_; (with_reducible refine (attestorref02_Parse.calls kj7 (a0.extract ((ji24) : Int).toNat a0.size) t1126 t1129 _ A27.out).mono ?_); rintro e w39 ⟨v1127, rfl, ho0, hb⟩; refine ⟨_, rfl, ?_⟩; refine nx4_ (Kd.V_below (by (with_reducible repeat (first | apply Kd.V_alloc | apply Kd.V_drewN | apply Kd.V_drew)); exact HO1124.out) hb) (Kd.V_lower (Kd.V_mono (ok' := fun k_ => k_ ≠ gb1119) ho0 (fun k_ hk_ => (Kd.freshB (g := gb1119) (o := .cells #[.slice none 0 0, .slice none 0 0] 29 (0, 0)) (by (with_reducible repeat (first | refine blk_drewN ?_ _ | refine blk_drew ?_ | refine blk_alloc ?_ _)); exact BK1119.out) k_ hk_))) (below_size (by repeat (first | (with_reducible first | exact HB.out | apply below_alloc | apply pw_below_drewN | apply below_drew1 | refine below_set ?_ GE1119.out) | exact HB.out)))) (blk_below (g := gb1119) (o := .cells #[.slice none 0 0, .slice none 0 0] 29 (0, 0)) (by (with_reducible repeat (first | refine blk_drewN ?_ _ | refine blk_drew ?_ | refine blk_alloc ?_ _)); exact BK1119.out) hb) (below_step (by repeat (first | (with_reducible first | exact HB.out | apply below_alloc | apply pw_below_drewN | apply below_drew1 | refine below_set ?_ GE1119.out) | exact HB.out)) hb) ?_; clear HO1124 BK1119 HB; intro HO1124 HO1128 BK1119 HB; clear hb ho0; have hcz40_0 : w39.cell? ⟨gb1119, 0, none⟩ = some (.slice none 0 0) := (blk_cell BK1119.out 0).trans rfl; have hcz40_1 : w39.cell? ⟨gb1119, 1, none⟩ = some (.slice none 0 0) := (blk_cell BK1119.out 1).trans rfl; have hfz40_0 := blk_frozen BK1119.out 0; have hfz40_1 := blk_frozen BK1119.out 1))
        refine bodyPost_ret (results_ct rfl _ _ gb1119 29 #[.slice none 0 0, .slice none 0 0] (0, 0) _ rfl (by (with_reducible repeat (first | refine blk_drewN ?_ _ | refine blk_drew ?_ | refine blk_alloc ?_ _)); refine blk_put (cs := #[.slice none 0 0, .slice none 0 0]) ?_ 1 _ rfl; (with_reducible repeat (first | refine blk_drewN ?_ _ | refine blk_drew ?_ | refine blk_alloc ?_ _)); refine blk_put (cs := #[.slice none 0 0, .slice none 0 0]) ?_ 0 _ rfl; (with_reducible repeat (first | refine blk_drewN ?_ _ | refine blk_drew ?_ | refine blk_alloc ?_ _)); exact BK1119.out) Tryd.underlying29 rfl (by kernel_rfl)) rfl ?_
        exact ⟨_, _, by first | rfl | (simp [errW_none, errW_some] <;> rfl) | (simp only [← hji24]; first | rfl | (simp [errW_none, errW_some] <;> rfl)) | (simp [*, errW_none, errW_some] <;> rfl), by first | exact Kd.R_nil _ _ _ _ _ | exact Kd.N_nil _ _ _ _ _ | exact Kd.V_nil _ _ _ _ _ | exact Kd.Q_nil _ _ _ _ _ | exact Kd.S_nil _ _ _ _ _, by first | exact Kd.R_nil _ _ _ _ _ | exact Kd.N_nil _ _ _ _ _ | exact Kd.V_nil _ _ _ _ _ | exact Kd.Q_nil _ _ _ _ _ | exact Kd.S_nil _ _ _ _ _, by repeat (first | (with_reducible first | exact HB.out | apply below_alloc | apply pw_below_drewN | apply below_drew1 | refine below_set ?_ GE1119.out) | exact HB.out)⟩
      ·rw [if_neg c23] at H
       have c23b0 := beq_eq_false_iff_ne.mpr c23
       have c23b1 := bne_iff_ne.mpr c23
       simp only [Option.some.injEq, Prod.mk.injEq] at H
       obtain ⟨rfl, rfl, rfl⟩ := H
       go_wp2_with (first | ((with_reducible refine gate_callee (f := 12) rfl ?_); refine gl_ (some 44) Tryd.func12 #[.string (a0.extract 0 (x4_1 : Int).toNat)] ?_; (with_reducible refine (attestorref02_Parse.calls kj7 (a0.extract 0 (x4_1 : Int).toNat) t1122 t1125 _ A22.out).mono ?_); rintro e w41 ⟨v1123, rfl, ho0, hb⟩; refine ⟨_, rfl, ?_⟩; refine nx3_ (Kd.V_lower (Kd.V_mono (ok' := fun k_ => k_ ≠ gb1119) ho0 (fun k_ hk_ => (Kd.freshB (g := gb1119) (o := .cells #[.slice none 0 0, .slice none 0 0] 29 (0, 0)) (by (with_reducible repeat (first | refine blk_drewN ?_ _ | refine blk_drew ?_ | refine blk_alloc ?_ _)); exact BK1119.out) k_ hk_))) (below_size (by repeat (first | (with_reducible first | exact HB.out | apply below_alloc | apply pw_below_drewN | apply below_drew1 | refine below_set ?_ GE1119.out) | exact HB.out)))) (blk_below (g := gb1119) (o := .cells #[.slice none 0 0, .slice none 0 0] 29 (0, 0)) (by (with_reducible repeat (first | refine blk_drewN ?_ _ | refine blk_drew ?_ | refine blk_alloc ?_ _)); exact BK1119.out) hb) (below_step (by repeat (first | (with_reducible first | exact HB.out | apply below_alloc | apply pw_below_drewN | apply below_drew1 | refine below_set ?_ GE1119.out) | exact HB.out)) hb) ?_; clear BK1119 HB; intro HO1124 BK1119 HB; clear hb ho0; have hcz42_0 : w41.cell? ⟨gb1119, 0, none⟩ = some (.slice none 0 0) := (blk_cell BK1119.out 0).trans rfl; have hcz42_1 : w41.cell? ⟨gb1119, 1, none⟩ = some (.slice none 0 0) := (blk_cell BK1119.out 1).trans rfl; have hfz42_0 := blk_frozen BK1119.out 0; have hfz42_1 := blk_frozen BK1119.out 1))
       refine bodyPost_ret (results_ct rfl _ _ gb1119 29 #[.slice none 0 0, .slice none 0 0] (0, 0) _ rfl (by (with_reducible repeat (first | refine blk_drewN ?_ _ | refine blk_drew ?_ | refine blk_alloc ?_ _)); refine blk_put (cs := #[.slice none 0 0, .slice none 0 0]) ?_ 1 _ rfl; (with_reducible repeat (first | refine blk_drewN ?_ _ | refine blk_drew ?_ | refine blk_alloc ?_ _)); refine blk_put (cs := #[.slice none 0 0, .slice none 0 0]) ?_ 0 _ rfl; (with_reducible repeat (first | refine blk_drewN ?_ _ | refine blk_drew ?_ | refine blk_alloc ?_ _)); exact BK1119.out) Tryd.underlying29 rfl (by kernel_rfl)) rfl ?_
       exact ⟨_, _, by first | rfl | (simp [errW_none, errW_some] <;> rfl) | (simp [*, errW_none, errW_some] <;> rfl), by first | exact Kd.R_nil _ _ _ _ _ | exact Kd.N_nil _ _ _ _ _ | exact Kd.V_nil _ _ _ _ _ | exact Kd.Q_nil _ _ _ _ _ | exact Kd.S_nil _ _ _ _ _, by first | exact Kd.R_nil _ _ _ _ _ | exact Kd.N_nil _ _ _ _ _ | exact Kd.V_nil _ _ _ _ _ | exact Kd.Q_nil _ _ _ _ _ | exact Kd.S_nil _ _ _ _ _, by repeat (first | (with_reducible first | exact HB.out | apply below_alloc | apply pw_below_drewN | apply below_drew1 | refine below_set ?_ GE1119.out) | exact HB.out)⟩

/-! ### attestorlaw02_RatioTexts: function 3 -/
def attestorlaw02_RatioTexts.f (k : Nat) (a0 : Int) (a1 : ByteArray) : Option (Bool) := if 0 ≤ (mn (a1.size : Int) 800) then (if (mn (a1.size : Int) 800) ≤ (a1.size : Int) then ((ratio_Parse.f k (a1.extract 0 ((mn (a1.size : Int) 800) : Int).toNat)).bind fun bt1143 => ((attestorref02_Parse.f k (a1.extract 0 ((mn (a1.size : Int) 800) : Int).toNat)).bind fun bt1147 => ((ratio_Read.f k (a1.extract 0 ((mn (a1.size : Int) 800) : Int).toNat)).bind fun bt1151 => ((attestorref02_Read.f k (a1.extract 0 ((mn (a1.size : Int) 800) : Int).toNat)).bind fun bt1159 => ((ratio_Nat.f k a0).bind fun t1167 => ((attestorref02_Nat.f k a0).bind fun t1170 => ((attestorref02_SameNat.f k t1167 t1170).bind fun t1173 => (if t1173 = true then (if bt1143.2 = bt1147.2 then ((attestorref02_SameNat.f k bt1143.1 bt1147.1).bind fun t1174 => (if t1174 = true then (if bt1151.2.2 = bt1159.2.2 then ((attestorref02_Same.f k bt1151.1 bt1151.2.1 bt1159.1 bt1159.2.1).bind fun t1175 => (if t1175 = true then ((attestorlaw02_works.f k).bind fun t1176 => (some t1176)) else (none))) else (none)) else (none))) else (none)) else (none))))))))) else (none)) else (none)
set_option maxHeartbeats 8000000 in
set_option maxRecDepth 100000 in
theorem attestorlaw02_RatioTexts.calls (k : Nat) (a0 : Int) (a1 : ByteArray) (r : Bool) (w : World) (h : attestorlaw02_RatioTexts.f k a0 a1 = some r) :
  Calls Tryd.prog 3 #[.int .u64 a0, .string a1] w fun e w' => e = .returned (.bool r) ∧ Below w.heap.size w w' := by
 have hu29 := Tryd.underlying29
 have HB := ak (Below.refl w.heap.size w)
 have H : (if 0 ≤ (mn (a1.size : Int) 800) then (if (mn (a1.size : Int) 800) ≤ (a1.size : Int) then ((ratio_Parse.f k (a1.extract 0 ((mn (a1.size : Int) 800) : Int).toNat)).bind fun bt1143 => ((attestorref02_Parse.f k (a1.extract 0 ((mn (a1.size : Int) 800) : Int).toNat)).bind fun bt1147 => ((ratio_Read.f k (a1.extract 0 ((mn (a1.size : Int) 800) : Int).toNat)).bind fun bt1151 => ((attestorref02_Read.f k (a1.extract 0 ((mn (a1.size : Int) 800) : Int).toNat)).bind fun bt1159 => ((ratio_Nat.f k a0).bind fun t1167 => ((attestorref02_Nat.f k a0).bind fun t1170 => ((attestorref02_SameNat.f k t1167 t1170).bind fun t1173 => (if t1173 = true then (if bt1143.2 = bt1147.2 then ((attestorref02_SameNat.f k bt1143.1 bt1147.1).bind fun t1174 => (if t1174 = true then (if bt1151.2.2 = bt1159.2.2 then ((attestorref02_Same.f k bt1151.1 bt1151.2.1 bt1159.1 bt1159.2.1).bind fun t1175 => (if t1175 = true then ((attestorlaw02_works.f k).bind fun t1176 => (some t1176)) else (none))) else (none)) else (none))) else (none)) else (none))))))))) else (none)) else (none)) = some r := h
 clear h
 obtain ⟨ji3, hji3⟩ : ∃ j_ : Int, (mn (a1.size : Int) 800) = j_ := ⟨_, rfl⟩
 first | rw [hji3] at H | simp only [hji3] at H
 (try (have hji3h : ji3 ≤ 800 := by (rw [← hji3]; unfold mn; (repeat' split) <;> omega)))
 (try (have hji3g : ji3 ≤ 64 := by omega))
 (try (have hji3l : 0 ≤ ji3 := by (rw [← hji3]; unfold mn; (repeat' split) <;> omega)))
 (try (have hji3m : 0 ≤ ji3 := by omega))
 have hji3_ : (if 800 < (a1.size : Int) then 800 else (a1.size : Int)) = ji3 := hji3
 obtain ⟨c4, H⟩ : (0 ≤ (ji3)) ∧ _ := it_ H
 have c4b0 := eq_true c4
 have c4b1 := decide_eq_true c4
 clear c4
 obtain ⟨c5, H⟩ : ((ji3) ≤ (a1.size : Int)) ∧ _ := it_ H
 have c5b0 := eq_true c5
 have c5b1 := decide_eq_true c5
 clear c5
 revert H
 refine bd2_ fun t1143 t1146 A6 H => ?_
 try dsimp only at H
 revert H
 refine bd2_ fun t1147 t1150 A7 H => ?_
 try dsimp only at H
 revert H
 refine bd3_ fun t1151 t1154 t1157 A8 H => ?_
 try dsimp only at H
 revert H
 refine bd3_ fun t1159 t1162 t1165 A9 H => ?_
 try dsimp only at H
 revert H
 refine bd_ fun t1167 A10 H => ?_
 revert H
 refine bd_ fun t1170 A11 H => ?_
 revert H
 refine bd_ fun t1173 A12 H => ?_
 by_cases c13 : t1173 = true
 ·subst c13
  rw [if_pos rfl] at H
  obtain ⟨c14, H⟩ : (t1146 = t1150) ∧ _ := it_ H
  have c14b0 := beq_iff_eq.mpr c14
  have c14b1 := bne_eq_false_iff_eq.mpr c14
  clear c14
  revert H
  refine bd_ fun t1174 A15 H => ?_
  by_cases c16 : t1174 = true
  ·subst c16
   rw [if_pos rfl] at H
   obtain ⟨c17, H⟩ : (t1157 = t1165) ∧ _ := it_ H
   have c17b0 := beq_iff_eq.mpr c17
   have c17b1 := bne_eq_false_iff_eq.mpr c17
   clear c17
   revert H
   refine bd_ fun t1175 A18 H => ?_
   by_cases c19 : t1175 = true
   ·subst c19
    rw [if_pos rfl] at H
    revert H
    refine bd_ fun t1176 A20 H => ?_
    obtain rfl := Option.some.inj H
    go_enter Tryd.func3, Tryd.ntmps3
    go_wp2_with (first | ((with_reducible refine gate_callee (f := 11) rfl ?_); refine goesL_ (some 20) rfl rfl Tryd.func11 (by kernel_rfl) rfl #[.string (a1.extract 0 ((ji3) : Int).toNat)] rfl (by (try simp only [List.map_toArray, List.map_cons, List.map_nil]); first | done | (simp only [hji3]; rfl) | rfl | (simp only [List.length_drop, List.length_take]; rfl)) ?_; (with_reducible refine (ratio_Parse.calls k (a1.extract 0 ((ji3) : Int).toNat) t1143 t1146 _ A6.out).mono ?_); rintro e w21 ⟨v1144, rfl, ho0, hb⟩; refine ⟨_, rfl, ?_⟩; refine nx2_ (Kd.V_lower (Kd.V_mono (ok' := fun k_ => True) ho0 (fun k_ hk_ => trivial)) (below_size (bU_ HB.out))) (below_step (bU_ HB.out) hb) ?_; clear HB; intro HO1145 HB; clear hb ho0) | ((with_reducible refine gate_callee (f := 12) rfl ?_); refine goesL_ (some 25) rfl rfl Tryd.func12 (by kernel_rfl) rfl #[.string (a1.extract 0 ((ji3) : Int).toNat)] rfl (by (try simp only [List.map_toArray, List.map_cons, List.map_nil]); first | done | (simp only [hji3]; rfl) | rfl | (simp only [List.length_drop, List.length_take]; rfl)) ?_; (with_reducible refine (attestorref02_Parse.calls k (a1.extract 0 ((ji3) : Int).toNat) t1147 t1150 _ A7.out).mono ?_); rintro e w22 ⟨v1148, rfl, ho0, hb⟩; refine ⟨_, rfl, ?_⟩; refine nx3_ (Kd.V_below (by (with_reducible repeat (first | apply Kd.V_alloc | apply Kd.V_drewN | apply Kd.V_drew)); exact HO1145.out) hb) (Kd.V_lower (Kd.V_mono (ok' := fun k_ => True) ho0 (fun k_ hk_ => trivial)) (below_size (bU_ HB.out))) (below_step (bU_ HB.out) hb) ?_; clear HO1145 HB; intro HO1145 HO1149 HB; clear hb ho0) | ((with_reducible refine gate_callee (f := 13) rfl ?_); refine goesL_ (some 30) rfl rfl Tryd.func13 (by kernel_rfl) rfl #[.string (a1.extract 0 ((ji3) : Int).toNat)] rfl (by (try simp only [List.map_toArray, List.map_cons, List.map_nil]); first | done | (simp only [hji3]; rfl) | rfl | (simp only [List.length_drop, List.length_take]; rfl)) ?_; (with_reducible refine (ratio_Read.calls k (a1.extract 0 ((ji3) : Int).toNat) t1151 t1154 t1157 _ A8.out).mono ?_); rintro e w23 ⟨v1152, v1155, rfl, ho0, ho1, hb⟩; refine ⟨_, rfl, ?_⟩; refine nx5_ (Kd.V_below (by (with_reducible repeat (first | apply Kd.V_alloc | apply Kd.V_drewN | apply Kd.V_drew)); exact HO1145.out) hb) (Kd.V_below (by (with_reducible repeat (first | apply Kd.V_alloc | apply Kd.V_drewN | apply Kd.V_drew)); exact HO1149.out) hb) (Kd.V_lower (Kd.V_mono (ok' := fun k_ => True) ho0 (fun k_ hk_ => trivial)) (below_size (bU_ HB.out))) (Kd.V_lower (Kd.V_mono (ok' := fun k_ => True) ho1 (fun k_ hk_ => trivial)) (below_size (bU_ HB.out))) (below_step (bU_ HB.out) hb) ?_; clear HO1145 HO1149 HB; intro HO1145 HO1149 HO1153 HO1156 HB; clear hb ho0 ho1) | ((with_reducible refine gate_dst (N := 9) rfl ?_); refine box_event ?hg (N := 9) ?hd (cs := #[.slice none 0 0, .slice none 0 0]) (t := 29) ?hr ?_; (case hd => rfl); (case hg => rfl); (case hr => first | (go_simp; done) | (go_simp; rfl)); intro gb1158 hg w24 hbox hb; refine nx8_ (Kd.V_below (Kd.V_elderB (by (with_reducible repeat (first | apply Kd.V_alloc | apply Kd.V_drewN | apply Kd.V_drew)); exact HO1145.out) gb1158 (Nat.le_of_eq hg.symm)) hb) (Kd.V_below (Kd.V_elderB (by (with_reducible repeat (first | apply Kd.V_alloc | apply Kd.V_drewN | apply Kd.V_drew)); exact HO1149.out) gb1158 (Nat.le_of_eq hg.symm)) hb) (Kd.V_below (Kd.V_elderB (by (with_reducible repeat (first | apply Kd.V_alloc | apply Kd.V_drewN | apply Kd.V_drew)); exact HO1153.out) gb1158 (Nat.le_of_eq hg.symm)) hb) (Kd.V_below (Kd.V_elderB (by (with_reducible repeat (first | apply Kd.V_alloc | apply Kd.V_drewN | apply Kd.V_drew)); exact HO1156.out) gb1158 (Nat.le_of_eq hg.symm)) hb) (below_step (bU_ HB.out) hb) (hbox) ((by rw [hg]; exact (below_size (bU_ HB.out)) : w.heap.size ≤ gb1158)) ((by rw [hg]; exact (below_size (bU_ HB.out)) : w.heap.size ≤ gb1158)) ?_; clear HO1145 HO1149 HO1153 HO1156 HB; intro HO1145 HO1149 HO1153 HO1156 HB BK1158 GW1158 GE1158; clear hb hbox hg; obtain ⟨Ao25, co25, eo25⟩ := Kd.V_slice HO1153.out; subst eo25; have hcz26_0 : w24.cell? ⟨gb1158, 0, none⟩ = some (.slice none 0 0) := (blk_cell BK1158.out 0).trans rfl; have hcz26_1 : w24.cell? ⟨gb1158, 1, none⟩ = some (.slice none 0 0) := (blk_cell BK1158.out 1).trans rfl; have hfz26_0 := blk_frozen BK1158.out 0; have hfz26_1 := blk_frozen BK1158.out 1; obtain ⟨Ao27, co27, eo27⟩ := Kd.V_slice HO1156.out; subst eo27) | ((with_reducible refine gate_callee (f := 14) rfl ?_); refine goesL_ (some 35) rfl rfl Tryd.func14 (by kernel_rfl) rfl #[.string (a1.extract 0 ((ji3) : Int).toNat)] rfl (by (try simp only [List.map_toArray, List.map_cons, List.map_nil]); first | done | (simp only [hji3]; rfl) | rfl | (simp only [List.length_drop, List.length_take]; rfl)) ?_; (with_reducible refine (attestorref02_Read.calls k (a1.extract 0 ((ji3) : Int).toNat) t1159 t1162 t1165 _ A9.out).mono ?_); rintro e w28 ⟨v1160, v1163, rfl, ho0, ho1, hb⟩; refine ⟨_, rfl, ?_⟩; refine nx8_ (Kd.V_mono (Kd.V_told (Kd.V_told (Kd.V_old (by (with_reducible repeat (first | apply Kd.V_alloc | apply Kd.V_drewN | apply Kd.V_drew)); exact (Kd.V_mono (Kd.V_far (p := ⟨gb1158, 1, none⟩) (Kd.V_far (p := ⟨gb1158, 0, none⟩) (Kd.V_mono HO1145.out (fun k_ hk => (⟨hk, hk.2⟩ : _ ∧ k_ ≠ gb1158))) (fun _ hk => hk.2) (.slice Ao25 t1151.length co25)) (fun _ hk => hk.2) (.slice Ao27 t1154.length co27)) (fun _ h_ => h_.1))) hb) (Kd.R_base ho0)) (Kd.R_base ho1)) (fun _ h_ => h_.1)) (Kd.V_mono (Kd.V_told (Kd.V_told (Kd.V_old (by (with_reducible repeat (first | apply Kd.V_alloc | apply Kd.V_drewN | apply Kd.V_drew)); exact (Kd.V_mono (Kd.V_far (p := ⟨gb1158, 1, none⟩) (Kd.V_far (p := ⟨gb1158, 0, none⟩) (Kd.V_mono HO1149.out (fun k_ hk => (⟨hk, hk.2⟩ : _ ∧ k_ ≠ gb1158))) (fun _ hk => hk.2) (.slice Ao25 t1151.length co25)) (fun _ hk => hk.2) (.slice Ao27 t1154.length co27)) (fun _ h_ => h_.1))) hb) (Kd.R_base ho0)) (Kd.R_base ho1)) (fun _ h_ => h_.1)) (Kd.V_mono (Kd.V_told (Kd.V_told (Kd.V_old (by (with_reducible repeat (first | apply Kd.V_alloc | apply Kd.V_drewN | apply Kd.V_drew)); exact (Kd.V_mono (Kd.V_far (p := ⟨gb1158, 1, none⟩) (Kd.V_far (p := ⟨gb1158, 0, none⟩) (Kd.V_mono HO1153.out (fun k_ hk => (⟨hk, hk.2⟩ : _ ∧ k_ ≠ gb1158))) (fun _ hk => hk.2) (.slice Ao25 t1151.length co25)) (fun _ hk => hk.2) (.slice Ao27 t1154.length co27)) (fun _ h_ => h_.1))) hb) (Kd.R_base ho0)) (Kd.R_base ho1)) (fun _ h_ => h_.1)) (Kd.V_mono (Kd.V_told (Kd.V_told (Kd.V_old (by (with_reducible repeat (first | apply Kd.V_alloc | apply Kd.V_drewN | apply Kd.V_drew)); exact (Kd.V_mono (Kd.V_far (p := ⟨gb1158, 1, none⟩) (Kd.V_far (p := ⟨gb1158, 0, none⟩) (Kd.V_mono HO1156.out (fun k_ hk => (⟨hk, hk.2⟩ : _ ∧ k_ ≠ gb1158))) (fun _ hk => hk.2) (.slice Ao25 t1151.length co25)) (fun _ hk => hk.2) (.slice Ao27 t1154.length co27)) (fun _ h_ => h_.1))) hb) (Kd.R_base ho0)) (Kd.R_base ho1)) (fun _ h_ => h_.1)) (Kd.R_lower ho0 (below_size (by repeat (first | (with_reducible first | exact HB.out | apply below_alloc | apply pw_below_drewN | apply below_drew1 | refine below_set ?_ GE1158.out) | exact HB.out)))) (Kd.R_lower ho1 (below_size (by repeat (first | (with_reducible first | exact HB.out | apply below_alloc | apply pw_below_drewN | apply below_drew1 | refine below_set ?_ GE1158.out) | exact HB.out)))) (blk_below (g := gb1158) (o := .cells #[.slice Ao25 t1151.length co25, .slice Ao27 t1154.length co27] 29 (0, 0)) (by (with_reducible repeat (first | refine blk_drewN ?_ _ | refine blk_drew ?_ | refine blk_alloc ?_ _)); refine blk_put (cs := #[.slice Ao25 t1151.length co25, .slice none 0 0]) ?_ 1 _ rfl; (with_reducible repeat (first | refine blk_drewN ?_ _ | refine blk_drew ?_ | refine blk_alloc ?_ _)); refine blk_put (cs := #[.slice none 0 0, .slice none 0 0]) ?_ 0 _ rfl; (with_reducible repeat (first | refine blk_drewN ?_ _ | refine blk_drew ?_ | refine blk_alloc ?_ _)); exact BK1158.out) hb) (below_step (by repeat (first | (with_reducible first | exact HB.out | apply below_alloc | apply pw_below_drewN | apply below_drew1 | refine below_set ?_ GE1158.out) | exact HB.out)) hb) ?_; clear HO1145 HO1149 HO1153 HO1156 BK1158 HB; intro HO1145 HO1149 HO1153 HO1156 HO1161 HO1164 BK1158 HB; clear hb ho0 ho1) | ((with_reducible refine gate_dst (N := 11) rfl ?_); refine box_event ?hg (N := 11) ?hd (cs := #[.slice none 0 0, .slice none 0 0]) (t := 29) ?hr ?_; (case hd => rfl); (case hg => rfl); (case hr => first | (go_simp; done) | (go_simp; rfl)); intro gb1166 hg w29 hbox hb; refine nx13_ (Kd.V_below (Kd.V_elderB (by (with_reducible repeat (first | apply Kd.V_alloc | apply Kd.V_drewN | apply Kd.V_drew)); exact HO1145.out) gb1166 (Nat.le_of_eq hg.symm)) hb) (Kd.V_below (Kd.V_elderB (by (with_reducible repeat (first | apply Kd.V_alloc | apply Kd.V_drewN | apply Kd.V_drew)); exact HO1149.out) gb1166 (Nat.le_of_eq hg.symm)) hb) (Kd.V_below (Kd.V_elderB (by (with_reducible repeat (first | apply Kd.V_alloc | apply Kd.V_drewN | apply Kd.V_drew)); exact HO1153.out) gb1166 (Nat.le_of_eq hg.symm)) hb) (Kd.V_below (Kd.V_elderB (by (with_reducible repeat (first | apply Kd.V_alloc | apply Kd.V_drewN | apply Kd.V_drew)); exact HO1156.out) gb1166 (Nat.le_of_eq hg.symm)) hb) (Kd.R_below (rU_ HO1161.out) hb) (Kd.R_below (rU_ HO1164.out) hb) (blk_below (g := gb1158) (o := .cells #[.slice Ao25 t1151.length co25, .slice Ao27 t1154.length co27] 29 (0, 0)) (by (with_reducible repeat (first | refine blk_drewN ?_ _ | refine blk_drew ?_ | refine blk_alloc ?_ _)); exact BK1158.out) hb) (below_step (by repeat (first | (with_reducible first | exact HB.out | apply below_alloc | apply pw_below_drewN | apply below_drew1 | refine below_set ?_ GE1158.out) | exact HB.out)) hb) (hbox) ((by rw [hg]; exact (below_size (by repeat (first | (with_reducible first | exact HB.out | apply below_alloc | apply pw_below_drewN | apply below_drew1 | refine below_set ?_ GE1158.out) | exact HB.out))) : w.heap.size ≤ gb1166)) ((by rw [hg]; exact (below_size (by repeat (first | (with_reducible first | exact HB.out | apply below_alloc | apply pw_below_drewN | apply below_drew1 | refine below_set ?_ GE1158.out) | exact HB.out))) : w.heap.size ≤ gb1166)) ((by rw [hg]; exact Nat.ne_of_lt (blk_lt (g := gb1158) (o := .cells #[.slice Ao25 t1151.length co25, .slice Ao27 t1154.length co27] 29 (0, 0)) (by (with_reducible repeat (first | refine blk_drewN ?_ _ | refine blk_drew ?_ | refine blk_alloc ?_ _)); exact BK1158.out)) : gb1158 ≠ gb1166)) ((by rw [hg]; exact Nat.ne_of_gt (blk_lt (g := gb1158) (o := .cells #[.slice Ao25 t1151.length co25, .slice Ao27 t1154.length co27] 29 (0, 0)) (by (with_reducible repeat (first | refine blk_drewN ?_ _ | refine blk_drew ?_ | refine blk_alloc ?_ _)); exact BK1158.out)) : gb1166 ≠ gb1158)) ?_; clear HO1145 HO1149 HO1153 HO1156 HO1161 HO1164 BK1158 HB; intro HO1145 HO1149 HO1153 HO1156 HO1161 HO1164 BK1158 HB BK1166 GW1166 GE1166 NB1158_1166 NB1166_1158; clear hb hbox hg; obtain ⟨Ao30, co30, eo30⟩ := Kd.R_slice HO1161.out; subst eo30; have hnb31 := NB1166_1158.out; have hnc31 := NB1158_1166.out; have hcz32_0 : w29.cell? ⟨gb1166, 0, none⟩ = some (.slice none 0 0) := (blk_cell BK1166.out 0).trans rfl; have hcz32_1 : w29.cell? ⟨gb1166, 1, none⟩ = some (.slice none 0 0) := (blk_cell BK1166.out 1).trans rfl; have hfz32_0 := blk_frozen BK1166.out 0; have hfz32_1 := blk_frozen BK1166.out 1; obtain ⟨Ao33, co33, eo33⟩ := Kd.R_slice HO1164.out; subst eo33) | ((with_reducible refine gate_callee (f := 16) rfl ?_); refine gl_ (some 39) Tryd.func16 #[.int .u64 a0] ?_; (with_reducible refine (ratio_Nat.calls k a0 t1167 _ A10.out).mono ?_); rintro e w34 ⟨v1168, rfl, ho0, hb⟩; refine ⟨_, rfl, ?_⟩; refine nx10_ (Kd.V_below (by (with_reducible repeat (first | apply Kd.V_alloc | apply Kd.V_drewN | apply Kd.V_drew)); exact (Kd.V_mono (Kd.V_far (p := ⟨gb1166, 1, none⟩) (Kd.V_far (p := ⟨gb1166, 0, none⟩) (Kd.V_mono HO1145.out (fun k_ hk => (⟨hk, hk.2⟩ : _ ∧ k_ ≠ gb1166))) (fun _ hk => hk.2) (.slice Ao30 t1159.length co30)) (fun _ hk => hk.2) (.slice Ao33 t1162.length co33)) (fun _ h_ => h_.1))) hb) (Kd.V_below (by (with_reducible repeat (first | apply Kd.V_alloc | apply Kd.V_drewN | apply Kd.V_drew)); exact (Kd.V_mono (Kd.V_far (p := ⟨gb1166, 1, none⟩) (Kd.V_far (p := ⟨gb1166, 0, none⟩) (Kd.V_mono HO1149.out (fun k_ hk => (⟨hk, hk.2⟩ : _ ∧ k_ ≠ gb1166))) (fun _ hk => hk.2) (.slice Ao30 t1159.length co30)) (fun _ hk => hk.2) (.slice Ao33 t1162.length co33)) (fun _ h_ => h_.1))) hb) (Kd.V_below (by (with_reducible repeat (first | apply Kd.V_alloc | apply Kd.V_drewN | apply Kd.V_drew)); exact (Kd.V_mono (Kd.V_far (p := ⟨gb1166, 1, none⟩) (Kd.V_far (p := ⟨gb1166, 0, none⟩) (Kd.V_mono HO1153.out (fun k_ hk => (⟨hk, hk.2⟩ : _ ∧ k_ ≠ gb1166))) (fun _ hk => hk.2) (.slice Ao30 t1159.length co30)) (fun _ hk => hk.2) (.slice Ao33 t1162.length co33)) (fun _ h_ => h_.1))) hb) (Kd.V_below (by (with_reducible repeat (first | apply Kd.V_alloc | apply Kd.V_drewN | apply Kd.V_drew)); exact (Kd.V_mono (Kd.V_far (p := ⟨gb1166, 1, none⟩) (Kd.V_far (p := ⟨gb1166, 0, none⟩) (Kd.V_mono HO1156.out (fun k_ hk => (⟨hk, hk.2⟩ : _ ∧ k_ ≠ gb1166))) (fun _ hk => hk.2) (.slice Ao30 t1159.length co30)) (fun _ hk => hk.2) (.slice Ao33 t1162.length co33)) (fun _ h_ => h_.1))) hb) (Kd.R_below (by (with_reducible repeat (first | apply Kd.R_alloc | apply Kd.R_drewN | apply Kd.R_drew)); exact (Kd.R_mono (Kd.R_far (p := ⟨gb1166, 1, none⟩) (Kd.R_far (p := ⟨gb1166, 0, none⟩) (Kd.R_types HO1161.out BK1166.out (by decide)) (fun _ hk => hk.2) (.slice Ao30 t1159.length co30)) (fun _ hk => hk.2) (.slice Ao33 t1162.length co33)) (fun _ h_ => h_.1))) hb) (Kd.R_below (by (with_reducible repeat (first | apply Kd.R_alloc | apply Kd.R_drewN | apply Kd.R_drew)); exact (Kd.R_mono (Kd.R_far (p := ⟨gb1166, 1, none⟩) (Kd.R_far (p := ⟨gb1166, 0, none⟩) (Kd.R_types HO1164.out BK1166.out (by decide)) (fun _ hk => hk.2) (.slice Ao30 t1159.length co30)) (fun _ hk => hk.2) (.slice Ao33 t1162.length co33)) (fun _ h_ => h_.1))) hb) (Kd.V_lower (Kd.V_mono (ok' := fun k_ => some k_ ≠ (.slice Ao30 t1159.length co30 : Value).ownBlock ∧ some k_ ≠ (.slice Ao33 t1162.length co33 : Value).ownBlock ∧ k_ ≠ gb1158 ∧ k_ ≠ gb1166) ho0 (fun k_ hk_ => ⟨(Kd.fresh' (Kd.R_lt (by (with_reducible repeat (first | apply Kd.R_alloc | apply Kd.R_drewN | apply Kd.R_drew)); exact (Kd.R_mono (Kd.R_far (p := ⟨gb1166, 1, none⟩) (Kd.R_far (p := ⟨gb1166, 0, none⟩) (Kd.R_types HO1161.out BK1166.out (by decide)) (fun _ hk => hk.2) (.slice Ao30 t1159.length co30)) (fun _ hk => hk.2) (.slice Ao33 t1162.length co33)) (fun _ h_ => h_.1)))) k_ hk_), (Kd.fresh' (Kd.R_lt (by (with_reducible repeat (first | apply Kd.R_alloc | apply Kd.R_drewN | apply Kd.R_drew)); exact (Kd.R_mono (Kd.R_far (p := ⟨gb1166, 1, none⟩) (Kd.R_far (p := ⟨gb1166, 0, none⟩) (Kd.R_types HO1164.out BK1166.out (by decide)) (fun _ hk => hk.2) (.slice Ao30 t1159.length co30)) (fun _ hk => hk.2) (.slice Ao33 t1162.length co33)) (fun _ h_ => h_.1)))) k_ hk_), (Kd.freshB (g := gb1158) (o := .cells #[.slice Ao25 t1151.length co25, .slice Ao27 t1154.length co27] 29 (0, 0)) (by (with_reducible repeat (first | refine blk_drewN ?_ _ | refine blk_drew ?_ | refine blk_alloc ?_ _)); refine blk_far ?_ NB1158_1166.out _; (with_reducible repeat (first | refine blk_drewN ?_ _ | refine blk_drew ?_ | refine blk_alloc ?_ _)); refine blk_far ?_ NB1158_1166.out _; (with_reducible repeat (first | refine blk_drewN ?_ _ | refine blk_drew ?_ | refine blk_alloc ?_ _)); exact BK1158.out) k_ hk_), (Kd.freshB (g := gb1166) (o := .cells #[.slice Ao30 t1159.length co30, .slice Ao33 t1162.length co33] 29 (0, 0)) (by (with_reducible repeat (first | refine blk_drewN ?_ _ | refine blk_drew ?_ | refine blk_alloc ?_ _)); refine blk_put (cs := #[.slice Ao30 t1159.length co30, .slice none 0 0]) ?_ 1 _ rfl; (with_reducible repeat (first | refine blk_drewN ?_ _ | refine blk_drew ?_ | refine blk_alloc ?_ _)); refine blk_put (cs := #[.slice none 0 0, .slice none 0 0]) ?_ 0 _ rfl; (with_reducible repeat (first | refine blk_drewN ?_ _ | refine blk_drew ?_ | refine blk_alloc ?_ _)); exact BK1166.out) k_ hk_)⟩)) (below_size (by repeat (first | (with_reducible first | exact HB.out | apply below_alloc | apply pw_below_drewN | apply below_drew1 | refine below_set ?_ GE1158.out | refine below_set ?_ GE1166.out) | exact HB.out)))) (blk_below (g := gb1158) (o := .cells #[.slice Ao25 t1151.length co25, .slice Ao27 t1154.length co27] 29 (0, 0)) (by (with_reducible repeat (first | refine blk_drewN ?_ _ | refine blk_drew ?_ | refine blk_alloc ?_ _)); refine blk_far ?_ NB1158_1166.out _; (with_reducible repeat (first | refine blk_drewN ?_ _ | refine blk_drew ?_ | refine blk_alloc ?_ _)); refine blk_far ?_ NB1158_1166.out _; (with_reducible repeat (first | refine blk_drewN ?_ _ | refine blk_drew ?_ | refine blk_alloc ?_ _)); exact BK1158.out) hb) (blk_below (g := gb1166) (o := .cells #[.slice Ao30 t1159.length co30, .slice Ao33 t1162.length co33] 29 (0, 0)) (by (with_reducible repeat (first | refine blk_drewN ?_ _ | refine blk_drew ?_ | refine blk_alloc ?_ _)); refine blk_put (cs := #[.slice Ao30 t1159.length co30, .slice none 0 0]) ?_ 1 _ rfl; (with_reducible repeat (first | refine blk_drewN ?_ _ | refine blk_drew ?_ | refine blk_alloc ?_ _)); refine blk_put (cs := #[.slice none 0 0, .slice none 0 0]) ?_ 0 _ rfl; (with_reducible repeat (first | refine blk_drewN ?_ _ | refine blk_drew ?_ | refine blk_alloc ?_ _)); exact BK1166.out) hb) (below_step (by repeat (first | (with_reducible first | exact HB.out | apply below_alloc | apply pw_below_drewN | apply below_drew1 | refine below_set ?_ GE1158.out | refine below_set ?_ GE1166.out) | exact HB.out)) hb) ?_; clear HO1145 HO1149 HO1153 HO1156 HO1161 HO1164 BK1158 BK1166 HB; intro HO1145 HO1149 HO1153 HO1156 HO1161 HO1164 HO1169 BK1158 BK1166 HB; clear hb ho0) | ((with_reducible refine gate_callee (f := 17) rfl ?_); refine gl_ (some 41) Tryd.func17 #[.int .u64 a0] ?_; (with_reducible refine (attestorref02_Nat.calls k a0 t1170 _ A11.out).mono ?_); rintro e w35 ⟨v1171, rfl, ho0, hb⟩; refine ⟨_, rfl, ?_⟩; refine nx11_ (Kd.V_elder' (by (with_reducible repeat (first | apply Kd.V_alloc | apply Kd.V_drewN | apply Kd.V_drew)); exact HO1145.out) (Kd.R_base ho0) hb) (Kd.V_elder' (by (with_reducible repeat (first | apply Kd.V_alloc | apply Kd.V_drewN | apply Kd.V_drew)); exact HO1149.out) (Kd.R_base ho0) hb) (Kd.V_elder' (by (with_reducible repeat (first | apply Kd.V_alloc | apply Kd.V_drewN | apply Kd.V_drew)); exact HO1153.out) (Kd.R_base ho0) hb) (Kd.V_elder' (by (with_reducible repeat (first | apply Kd.V_alloc | apply Kd.V_drewN | apply Kd.V_drew)); exact HO1156.out) (Kd.R_base ho0) hb) (Kd.R_elder' (rU_ HO1161.out) (Kd.R_base ho0) hb) (Kd.R_elder' (rU_ HO1164.out) (Kd.R_base ho0) hb) (Kd.V_elder' (by (with_reducible repeat (first | apply Kd.V_alloc | apply Kd.V_drewN | apply Kd.V_drew)); exact HO1169.out) (Kd.R_base ho0) hb) (Kd.R_lower (Kd.R_new' (Kd.R_new' ho0 (Kd.R_lt (rU_ HO1161.out))) (Kd.R_lt (rU_ HO1164.out))) (below_size (by repeat (first | (with_reducible first | exact HB.out | apply below_alloc | apply pw_below_drewN | apply below_drew1 | refine below_set ?_ GE1158.out | refine below_set ?_ GE1166.out) | exact HB.out)))) (blk_below (g := gb1158) (o := .cells #[.slice Ao25 t1151.length co25, .slice Ao27 t1154.length co27] 29 (0, 0)) (by (with_reducible repeat (first | refine blk_drewN ?_ _ | refine blk_drew ?_ | refine blk_alloc ?_ _)); exact BK1158.out) hb) (blk_below (g := gb1166) (o := .cells #[.slice Ao30 t1159.length co30, .slice Ao33 t1162.length co33] 29 (0, 0)) (by (with_reducible repeat (first | refine blk_drewN ?_ _ | refine blk_drew ?_ | refine blk_alloc ?_ _)); exact BK1166.out) hb) (below_step (by repeat (first | (with_reducible first | exact HB.out | apply below_alloc | apply pw_below_drewN | apply below_drew1 | refine below_set ?_ GE1158.out | refine below_set ?_ GE1166.out) | exact HB.out)) hb) ?_; clear HO1145 HO1149 HO1153 HO1156 HO1161 HO1164 HO1169 BK1158 BK1166 HB; intro HO1145 HO1149 HO1153 HO1156 HO1161 HO1164 HO1169 HO1172 BK1158 BK1166 HB; clear hb ho0; obtain ⟨Ao36, co36, eo36⟩ := Kd.V_slice HO1169.out; subst eo36; obtain ⟨Ao37, co37, eo37⟩ := Kd.R_slice HO1172.out; subst eo37) | ((with_reducible refine gate_callee (f := 15) rfl ?_); refine gl_ (some 42) Tryd.func15 #[.slice Ao36 t1167.length co36, .slice Ao37 t1170.length co37] ?_; (with_reducible refine (attestorref02_SameNat.calls k _ _ t1167 _ _ t1170 true _ ?side1 ?side2 ?side3 ?side4 A12.out).mono ?_); (case side1 => exact cU_ ((Kd.V_reads' HO1169.out).2.2)); (case side2 => exact (Kd.V_reads' HO1169.out).2.1); (case side3 => exact cU_ ((Kd.R_reads' HO1172.out).2.2)); (case side4 => exact (Kd.R_reads' HO1172.out).2.1); rintro e w' ⟨rfl, ⟨nd, rfl⟩⟩; refine ⟨_, rfl, ?_⟩; obtain ⟨Ao38, co38, eo38⟩ := Kd.V_slice HO1145.out; subst eo38; obtain ⟨Ao39, co39, eo39⟩ := Kd.V_slice HO1149.out; subst eo39) | (go_at_call 15; (with_reducible refine (attestorref02_SameNat.calls k _ _ t1143 _ _ t1147 true _ ?side1 ?side2 ?side3 ?side4 A15.out).mono ?_); (case side1 => exact cU_ ((Kd.V_reads' HO1145.out).2.2)); (case side2 => exact (Kd.V_reads' HO1145.out).2.1); (case side3 => exact cU_ ((Kd.V_reads' HO1149.out).2.2)); (case side4 => exact (Kd.V_reads' HO1149.out).2.1); rintro e w' ⟨rfl, ⟨nd, rfl⟩⟩; have hcz40_0 : w35.cell? ⟨gb1158, 0, none⟩ = some (.slice Ao25 t1151.length co25) := (blk_cell BK1158.out 0).trans rfl; have hcz40_1 : w35.cell? ⟨gb1158, 1, none⟩ = some (.slice Ao27 t1154.length co27) := (blk_cell BK1158.out 1).trans rfl; have hfz40_0 := blk_frozen BK1158.out 0; have hfz40_1 := blk_frozen BK1158.out 1; have hcz41_0 : w35.cell? ⟨gb1166, 0, none⟩ = some (.slice Ao30 t1159.length co30) := (blk_cell BK1166.out 0).trans rfl; have hcz41_1 : w35.cell? ⟨gb1166, 1, none⟩ = some (.slice Ao33 t1162.length co33) := (blk_cell BK1166.out 1).trans rfl; have hfz41_0 := blk_frozen BK1166.out 0; have hfz41_1 := blk_frozen BK1166.out 1) | (go_at_call 18; (with_reducible refine (attestorref02_Same.calls k _ _ t1151 _ _ t1154 _ _ t1159 _ _ t1162 true _ ?side1 ?side2 ?side3 ?side4 ?side5 ?side6 ?side7 ?side8 A18.out).mono ?_); (case side1 => exact cU_ ((Kd.V_reads' HO1153.out).2.2)); (case side2 => exact (Kd.V_reads' HO1153.out).2.1); (case side3 => exact cU_ ((Kd.V_reads' HO1156.out).2.2)); (case side4 => exact (Kd.V_reads' HO1156.out).2.1); (case side5 => exact cU_ ((Kd.R_reads' HO1161.out).2.2)); (case side6 => exact (Kd.R_reads' HO1161.out).2.1); (case side7 => exact cU_ ((Kd.R_reads' HO1164.out).2.2)); (case side8 => exact (Kd.R_reads' HO1164.out).2.1); rintro e w42 ⟨rfl, hb⟩; refine nx11_ (Kd.V_below (by (with_reducible repeat (first | apply Kd.V_alloc | apply Kd.V_drewN | apply Kd.V_drew)); exact HO1145.out) hb) (Kd.V_below (by (with_reducible repeat (first | apply Kd.V_alloc | apply Kd.V_drewN | apply Kd.V_drew)); exact HO1149.out) hb) (Kd.V_below (by (with_reducible repeat (first | apply Kd.V_alloc | apply Kd.V_drewN | apply Kd.V_drew)); exact HO1153.out) hb) (Kd.V_below (by (with_reducible repeat (first | apply Kd.V_alloc | apply Kd.V_drewN | apply Kd.V_drew)); exact HO1156.out) hb) (Kd.R_below (rU_ HO1161.out) hb) (Kd.R_below (rU_ HO1164.out) hb) (Kd.V_below (by (with_reducible repeat (first | apply Kd.V_alloc | apply Kd.V_drewN | apply Kd.V_drew)); exact HO1169.out) hb) (Kd.R_below (rU_ HO1172.out) hb) (blk_below (g := gb1158) (o := .cells #[.slice Ao25 t1151.length co25, .slice Ao27 t1154.length co27] 29 (0, 0)) (by (with_reducible repeat (first | refine blk_drewN ?_ _ | refine blk_drew ?_ | refine blk_alloc ?_ _)); exact BK1158.out) hb) (blk_below (g := gb1166) (o := .cells #[.slice Ao30 t1159.length co30, .slice Ao33 t1162.length co33] 29 (0, 0)) (by (with_reducible repeat (first | refine blk_drewN ?_ _ | refine blk_drew ?_ | refine blk_alloc ?_ _)); exact BK1166.out) hb) (below_step (by repeat (first | (with_reducible first | exact HB.out | apply below_alloc | apply pw_below_drewN | apply below_drew1 | refine below_set ?_ GE1158.out | refine below_set ?_ GE1166.out) | exact HB.out)) hb) ?_; clear HO1145 HO1149 HO1153 HO1156 HO1161 HO1164 HO1169 HO1172 BK1158 BK1166 HB; intro HO1145 HO1149 HO1153 HO1156 HO1161 HO1164 HO1169 HO1172 BK1158 BK1166 HB; clear hb) | (go_at_call 19; (with_reducible refine (attestorlaw02_works.calls k  t1176 _ A20.out).mono ?_); rintro e w43 ⟨rfl, hb⟩; refine nx11_ (Kd.V_below (by (with_reducible repeat (first | apply Kd.V_alloc | apply Kd.V_drewN | apply Kd.V_drew)); exact HO1145.out) hb) (Kd.V_below (by (with_reducible repeat (first | apply Kd.V_alloc | apply Kd.V_drewN | apply Kd.V_drew)); exact HO1149.out) hb) (Kd.V_below (by (with_reducible repeat (first | apply Kd.V_alloc | apply Kd.V_drewN | apply Kd.V_drew)); exact HO1153.out) hb) (Kd.V_below (by (with_reducible repeat (first | apply Kd.V_alloc | apply Kd.V_drewN | apply Kd.V_drew)); exact HO1156.out) hb) (Kd.R_below (rU_ HO1161.out) hb) (Kd.R_below (rU_ HO1164.out) hb) (Kd.V_below (by (with_reducible repeat (first | apply Kd.V_alloc | apply Kd.V_drewN | apply Kd.V_drew)); exact HO1169.out) hb) (Kd.R_below (rU_ HO1172.out) hb) (blk_below (g := gb1158) (o := .cells #[.slice Ao25 t1151.length co25, .slice Ao27 t1154.length co27] 29 (0, 0)) (by (with_reducible repeat (first | refine blk_drewN ?_ _ | refine blk_drew ?_ | refine blk_alloc ?_ _)); exact BK1158.out) hb) (blk_below (g := gb1166) (o := .cells #[.slice Ao30 t1159.length co30, .slice Ao33 t1162.length co33] 29 (0, 0)) (by (with_reducible repeat (first | refine blk_drewN ?_ _ | refine blk_drew ?_ | refine blk_alloc ?_ _)); exact BK1166.out) hb) (below_step (by repeat (first | (with_reducible first | exact HB.out | apply below_alloc | apply pw_below_drewN | apply below_drew1 | refine below_set ?_ GE1158.out | refine below_set ?_ GE1166.out) | exact HB.out)) hb) ?_; clear HO1145 HO1149 HO1153 HO1156 HO1161 HO1164 HO1169 HO1172 BK1158 BK1166 HB; intro HO1145 HO1149 HO1153 HO1156 HO1161 HO1164 HO1169 HO1172 BK1158 BK1166 HB; clear hb))
    go_ret
    exact ⟨by first | rfl | (simp [errW_none, errW_some] <;> rfl) | (simp only [← hji3]; first | rfl | (simp [errW_none, errW_some] <;> rfl)) | (simp [*, errW_none, errW_some] <;> rfl), by repeat (first | (with_reducible first | exact HB.out | apply below_alloc | apply pw_below_drewN | apply below_drew1 | refine below_set ?_ GE1158.out | refine below_set ?_ GE1166.out) | exact HB.out)⟩
   ·replace c19 := Bool.eq_false_iff.mpr c19
    subst c19
    rw [if_neg (show ¬ (false = true) by decide)] at H
    exact absurd H (by simp)
  ·replace c16 := Bool.eq_false_iff.mpr c16
   subst c16
   rw [if_neg (show ¬ (false = true) by decide)] at H
   exact absurd H (by simp)
 ·replace c13 := Bool.eq_false_iff.mpr c13
  subst c13
  rw [if_neg (show ¬ (false = true) by decide)] at H
  exact absurd H (by simp)

/-- THE ONE PURE STATEMENT of attestorlaw02_RatioTexts: yours. -/
def attestorlaw02_RatioTexts.Pure : Prop := ∀ (a0 : Int) (a1 : ByteArray), (Lit.int .u64 a0).wf = true → a1.size ≤ 140737488351232 → ∃ k, attestorlaw02_RatioTexts.f k a0 a1 = some true
theorem attestorlaw02_RatioTexts.walk (P : attestorlaw02_RatioTexts.Pure) (a0 : Int) (a1 : ByteArray) (w : World) (w0 : (Lit.int .u64 a0).wf = true) (w1 : a1.size ≤ 140737488351232) :
  Calls Tryd.prog 3 #[.int .u64 a0, .string a1] w fun e w' => e = .returned (.bool true) ∧ Below w.heap.size w w' := by
 obtain ⟨k, h⟩ := P a0 a1 w0 w1
 refine (attestorlaw02_RatioTexts.calls k a0 a1 true w h).mono ?_
 rintro e w' ⟨rfl, hd⟩
 exact ⟨rfl, hd⟩

end Go.Proofs.YtjjjoepnlhpjdaaDoor.Q

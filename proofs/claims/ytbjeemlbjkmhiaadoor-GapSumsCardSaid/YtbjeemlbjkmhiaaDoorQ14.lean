import Derived.Test.YtbjeemlbjkmhiaaDoorQ0
import Derived.Test.YtbjeemlbjkmhiaaDoorQ2
import Derived.Test.YtbjeemlbjkmhiaaDoorQ4
import Derived.Test.YtbjeemlbjkmhiaaDoorQ11
import Derived.Test.YtbjeemlbjkmhiaaDoorQ12
namespace Go.Proofs.YtbjeemlbjkmhiaaDoor.Q
open Go.RowKit Go.Proofs.YtbjeemlbjkmhiaaDoorW.PrintWords Go.Proofs.YtbjeemlbjkmhiaaDoorW.PrintLast Go.Proofs.YtbjeemlbjkmhiaaDoorW.PrintMore
open Kd (R_below R_lower R_slice R_reads' R_make C_below)
attribute [local go_sem] max2_int min2_int max_two min_two max_three min_three max_four min_four   -- for this text's walks alone
set_option linter.unusedVariables false
set_option linter.unusedSimpArgs false

def field_Sum.l0 : Nat → Int → Int → List Int → Int → Int → Option (Int)
 | 0, _, _, _, _, _ => none
 | k + 1, x0, x5, x8, x9, x10 => if x10 < x9 then (if 0 ≤ x10 then (if x10 < (x8.length : Int) then ((field_Add.f x0 x5 (rd x8 x10)).bind fun t939 => (field_Sum.l0 k x0 t939 x8 x9 (wrap64 (x10 + 1)))) else (none)) else (none)) else (some x5)
def field_Sum.f (k : Nat) (a0 : Int) (l1 : List Int) : Option (Int) := field_Sum.l0 k a0 0 l1 (l1.length : Int) 0
set_option maxHeartbeats 8000000 in
set_option maxRecDepth 100000 in
theorem field_Sum.calls (k : Nat) (a0 : Int) (A1 : Option Addr) (c1 : Nat) (l1 : List Int) (r : Int) (w : World) (hG : Fld w) (hr1 : Kd.C (Kd.int .u64) w A1 l1.length l1) (hc1 : l1.length ≤ c1) (h : field_Sum.f k a0 l1 = some r) :
  Calls Tryd.prog 69 #[.int .i64 a0, .slice A1 l1.length c1] w fun e w' => e = .returned (.int .u64 r) ∧ Below w.heap.size w w' := by
 have HG := ak hG
 clear hG
 have HR1 := ak hr1
 have HC1 := ak hc1
 clear hr1 hc1
 have HB := ak (Below.refl w.heap.size w)
 have H : (field_Sum.l0 k a0 0 l1 (l1.length : Int) 0) = some r := h
 clear h
 have H' := ak H
 clear H
 go_enter Tryd.func69, Tryd.ntmps69
 go_wp2
 go_loopg [5, 10] k (fun kq v5 v10 w' => ∃ (x5_1 : Int) (x10_1 : Int), v5 = .int .u64 x5_1 ∧ v10 = .int .i64 x10_1 ∧ Aside0 (field_Sum.l0 kq a0 x5_1 l1 (l1.length : Int) x10_1 = some r) ∧ Aside0 (kq ≤ k) ∧ Aside0 (Below w.heap.size w w'))
 case atStart => exact ⟨(0), (0), gb_, gb_, H', ⟨Nat.le_refl _⟩, ⟨bU_ HB.out⟩⟩
 case round =>
  clear H'
  (try clear c1); (try clear p2)
  obtain ⟨x5_1, x10_1, rfl, rfl, HA, HK1, HB⟩ := hrel
  cases gk with
  | zero => exact absurd HA.out (by simp [field_Sum.l0])
  | succ k1 =>
   have H := HA.out
   clear HA
   simp only [field_Sum.l0] at H
   by_cases c3 : x10_1 < (l1.length : Int)
   ·rw [if_pos c3] at H
    have c3b0 := decide_eq_true c3
    clear c3
    obtain ⟨c4, H⟩ : (0 ≤ x10_1) ∧ _ := it_ H
    have c4b0 := decide_eq_true c4
    clear c4
    obtain ⟨c5, H⟩ : (x10_1 < (l1.length : Int)) ∧ _ := it_ H
    have c5b0 := decide_eq_true c5
    clear c5
    revert H
    refine bd_ fun t939 A6 H => ?_
    have H' := ak H
    clear H
    have p938 : 0 ≤ (x10_1 : Int) := od_
    have q938 : x10_1 < (l1.length : Int) := od_
    obtain ⟨ad938, e938, hx938_0⟩ := Kd.at_int HR1.out x10_1 p938 q938
    cases e938
    replace hx938_0 := (HB.out.cell (World.block_lt_of_cell? w _ hx938_0)).trans hx938_0
    replace p938 := eq_true p938
    replace q938 := eq_true q938
    go_wp2_with (first | ((with_reducible refine gate_callee (f := 25) rfl ?_); refine gl_ (some 17) Tryd.func25 #[.int .i64 a0, .int .u64 x5_1, .int .u64 (rd l1 x10_1)] ?_; (with_reducible refine (field_Add.calls a0 x5_1 (rd l1 x10_1) t939 _ ?side1 A6.out).mono ?_); (case side1 => exact fU_ HG.out HB.out); rintro e w7 ⟨rfl, hb⟩; refine ⟨_, rfl, ?_⟩; refine nx1_ (below_step (bU_ HB.out) hb) ?_; clear HB; intro HB; clear hb))
    go_roundg k1
    case measure => have := HK1.out; omega
    case rel => exact ⟨(t939), (wrap64 (x10_1 + 1)), gb_, gb_, H', ⟨by have := HK1.out; omega⟩, ⟨bU_ HB.out⟩⟩
   rw [if_neg c3] at H
   have c3b0 := decide_eq_false c3
   clear c3
   obtain rfl := Option.some.inj H
   go_wp2
   go_ret
   exact ⟨eW_, bU_ HB.out⟩

mutual
def field_Inv.j0 : Nat → Int → Int → Bool → Option (Int)
 | 0, _, _, _ => none
 | k + 1, x1, x5, x20 => if x20 = true then (some 0) else (if x5 = 0 then (none) else (field_Inv.l0 k x5 (wrap64 (x5)) (wrap64 (Int.tmod x1 x5)) 0 1))
def field_Inv.l0 : Nat → Int → Int → Int → Int → Int → Option (Int)
 | 0, _, _, _, _, _ => none
 | k + 1, x5, x6, x7, x8, x9 => if x7 = 0 then (if x8 < 0 then (some (IntKind.u64.wrap (wrap64 (x8 + (wrap64 (x5)))))) else (some (IntKind.u64.wrap (x8)))) else (field_Inv.l0 k x5 x7 (wrap64 (x6 - (wrap64 ((wrap64 (Int.tdiv x6 x7)) * x7)))) x9 (wrap64 (x8 - (wrap64 ((wrap64 (Int.tdiv x6 x7)) * x9)))))
end
def field_Inv.f (k : Nat) (a0 : Int) (a1 : Int) : Option (Int) := (field_P.f a0).bind fun t940 => (if t940 = 0 then (field_Inv.j0 k a1 t940 true) else (field_Inv.j0 k a1 t940 ((Int.tmod a1 t940) == 0)))
set_option maxHeartbeats 8000000 in
set_option maxRecDepth 100000 in
theorem field_Inv.calls (k : Nat) (a0 : Int) (a1 : Int) (r : Int) (w : World) (hG : Fld w) (h : field_Inv.f k a0 a1 = some r) :
  Calls Tryd.prog 112 #[.int .i64 a0, .int .u64 a1] w fun e w' => e = .returned (.int .u64 r) ∧ Below w.heap.size w w' := by
 have HG := ak hG
 clear hG
 have HB := ak (Below.refl w.heap.size w)
 have H := h
 clear h
 unfold field_Inv.f at H
 revert H
 refine bd_ fun t940 A3 H => ?_
 have HC4 := ak H
 clear H
 go_enter Tryd.func112, Tryd.ntmps112
 go_upto_region 2 with (first | (go_at_call 47; (with_reducible refine (field_P.calls a0 t940 _ ?side1 A3.out).mono ?_); (case side1 => exact fU_ HG.out HB.out); rintro e w5 ⟨rfl, hb⟩; refine nx1_ (below_step (bU_ HB.out) hb) ?_; clear HB; intro HB; clear hb))
 repeat (go_quiet (first | (go_at_call 47; (with_reducible refine (field_P.calls a0 t940 _ ?side1 A3.out).mono ?_); (case side1 => exact fU_ HG.out HB.out); rintro e w5 ⟨rfl, hb⟩; refine nx1_ (below_step (bU_ HB.out) hb) ?_; clear HB; intro HB; clear hb)); go_upto_region 2 with (first | (go_at_call 47; (with_reducible refine (field_P.calls a0 t940 _ ?side1 A3.out).mono ?_); (case side1 => exact fU_ HG.out HB.out); rintro e w5 ⟨rfl, hb⟩; refine nx1_ (below_step (bU_ HB.out) hb) ?_; clear HB; intro HB; clear hb)))
 (try simp only [Act.put, s1_, s2_, s3_])
 go_cut [20] (fun v20 wc => ∃ (kq : Nat) (x20_3 : Bool), v20 = .bool x20_3 ∧ Aside0 (field_Inv.j0 kq a1 t940 x20_3 = some r) ∧ Aside0 (kq ≤ k) ∧ Aside0 (Below w.heap.size w wc))
 case first =>
  have H := HC4.out
  clear HC4
  by_cases c6 : t940 = 0
  ·rw [if_pos c6] at H
   have c6b0 := beq_iff_eq.mpr c6
   have c6b1 := bne_eq_false_iff_eq.mpr c6
   clear c6
   (first | rw [c6b0] | (simp only [i64_w, i32_w]; rw [c6b0]) | rw [c6b1] | skip)
   have H' := ak H
   clear H
   go_wp2
   repeat (go_quiet (fail); try go_wp2)
   go_meet
   case rel => exact ⟨_, (true), gb_, H', ⟨by first | omega | exact Nat.le_refl _⟩, ⟨bU_ HB.out⟩⟩
  rw [if_neg c6] at H
  have c6b0 := beq_eq_false_iff_ne.mpr c6
  have c6b1 := bne_iff_ne.mpr c6
  (first | rw [c6b0] | (simp only [i64_w, i32_w]; rw [c6b0]) | rw [c6b1] | skip)
  have H' := ak H
  clear H
  go_wp2
  repeat (go_quiet (fail); try go_wp2)
  go_meet
  case rel => exact ⟨_, (((Int.tmod a1 t940) == 0)), gb_, H', ⟨by first | omega | exact Nat.le_refl _⟩, ⟨bU_ HB.out⟩⟩
 case rest =>
  clear HC4
  (try clear c1); (try clear p2); (try clear c6); (try clear c6b0); (try clear c6b1)
  obtain ⟨kq, x20_3, rfl, HA, HJ3, HB⟩ := hcut
  cases kq with
  | zero => exact absurd HA.out (by simp [field_Inv.j0])
  | succ kj3 =>
   have H := HA.out
   clear HA
   simp only [field_Inv.j0] at H
   by_cases c7 : x20_3 = true
   ·subst c7
    rw [if_pos rfl] at H
    obtain rfl := Option.some.inj H
    go_wp2
    repeat (go_quiet (fail); try go_wp2)
    go_ret
    exact ⟨eW_, bU_ HB.out⟩
   replace c7 := Bool.eq_false_iff.mpr c7
   subst c7
   rw [if_neg (show ¬ (false = true) by decide)] at H
   by_cases c8 : t940 = 0
   ·rw [if_pos c8] at H
    exact absurd H (by simp)
   rw [if_neg c8] at H
   have c8b0 := beq_eq_false_iff_ne.mpr c8
   have c8b1 := bne_iff_ne.mpr c8
   have H' := ak H
   clear H
   go_wp2
   repeat (go_quiet (fail); try go_wp2)
   go_loopg [6, 7, 8, 9] kj3 (fun kq v6 v7 v8 v9 w' => ∃ (x6_2 : Int) (x7_2 : Int) (x8_2 : Int) (x9_2 : Int), v6 = .int .i64 x6_2 ∧ v7 = .int .i64 x7_2 ∧ v8 = .int .i64 x8_2 ∧ v9 = .int .i64 x9_2 ∧ Aside0 (field_Inv.l0 kq t940 x6_2 x7_2 x8_2 x9_2 = some r) ∧ Aside0 (kq ≤ kj3) ∧ Aside0 (Below w.heap.size w w'))
   case atStart => exact ⟨(wrap64 (t940)), (wrap64 (Int.tmod a1 t940)), (0), (1), gb_, gb_, gb_, gb_, H', ⟨Nat.le_refl _⟩, ⟨bU_ HB.out⟩⟩
   case round =>
    clear H'
    (try clear c1); (try clear p2); (try clear c6); (try clear c6b0); (try clear c6b1); (try clear p6); (try clear c7); (try clear c8); (try clear c8b0); (try clear c8b1)
    obtain ⟨x6_2, x7_2, x8_2, x9_2, rfl, rfl, rfl, rfl, HA, HK2, HB⟩ := hrel
    cases gk with
    | zero => exact absurd HA.out (by simp [field_Inv.l0])
    | succ k2 =>
     have H := HA.out
     clear HA
     simp only [field_Inv.l0] at H
     by_cases c9 : x7_2 = 0
     ·rw [if_pos c9] at H
      have c9b0 := beq_iff_eq.mpr c9
      have c9b1 := bne_eq_false_iff_eq.mpr c9
      clear c9
      by_cases c10 : x8_2 < 0
      ·rw [if_pos c10] at H
       have c10b0 := decide_eq_true c10
       clear c10
       obtain rfl := Option.some.inj H
       go_wp2
       repeat (go_quiet (fail); try go_wp2)
       go_ret
       exact ⟨eW_, bU_ HB.out⟩
      rw [if_neg c10] at H
      have c10b0 := decide_eq_false c10
      clear c10
      obtain rfl := Option.some.inj H
      go_wp2
      repeat (go_quiet (fail); try go_wp2)
      go_ret
      exact ⟨eW_, bU_ HB.out⟩
     rw [if_neg c9] at H
     have c9b0 := beq_eq_false_iff_ne.mpr c9
     have c9b1 := bne_iff_ne.mpr c9
     have H' := ak H
     clear H
     go_wp2
     repeat (go_quiet (fail); try go_wp2)
     go_roundg k2
     case measure => have := HJ3.out; have := HK2.out; omega
     case rel => exact ⟨(x7_2), (wrap64 (x6_2 - (wrap64 ((wrap64 (Int.tdiv x6_2 x7_2)) * x7_2)))), (x9_2), (wrap64 (x8_2 - (wrap64 ((wrap64 (Int.tdiv x6_2 x7_2)) * x9_2)))), gb_, gb_, gb_, gb_, H', ⟨by have := HJ3.out; have := HK2.out; omega⟩, ⟨bU_ HB.out⟩⟩

mutual
def field_Inverses.l0 : Nat → Int → List Int → Int → List Int → Int → Int → Int → Option (List Int)
 | 0, _, _, _, _, _, _, _ => none
 | k + 1, x0, x1, x5, x6, x7, x20, x21 => if x21 < x20 then (if 0 ≤ x21 then (if x21 < (x6.length : Int) then ((some (x6.set (x21 : Int).toNat x7 : List Int)).bind fun y945 => (if x21 < (x1.length : Int) then (if x5 = 0 then (none) else (if (Int.tmod (rd x1 x21) x5) = 0 then (field_Inverses.l0 k x0 x1 x5 y945 x7 x20 (wrap64 (x21 + 1))) else ((field_Mul.f x0 x7 (rd x1 x21)).bind fun t948 => (field_Inverses.l0 k x0 x1 x5 y945 t948 x20 (wrap64 (x21 + 1)))))) else (none))) else (none)) else (none)) else ((field_Inv.f k x0 x7).bind fun t949 => (field_Inverses.l1 k x0 x1 x5 x6 t949 (x1.length : Int) 0))
def field_Inverses.l1 : Nat → Int → List Int → Int → List Int → Int → Int → Int → Option (List Int)
 | 0, _, _, _, _, _, _, _ => none
 | k + 1, x0, x1, x5, x6, x9, x47, x48 => if x48 < x47 then (if 0 ≤ (wrap64 ((wrap64 ((x1.length : Int) - 1)) - x48)) then (if (wrap64 ((wrap64 ((x1.length : Int) - 1)) - x48)) < (x1.length : Int) then (if x5 = 0 then (none) else (if (Int.tmod (rd x1 (wrap64 ((wrap64 ((x1.length : Int) - 1)) - x48))) x5) = 0 then (if (wrap64 ((wrap64 ((x1.length : Int) - 1)) - x48)) < (x6.length : Int) then (field_Inverses.l1 k x0 x1 x5 (x6.set ((wrap64 ((wrap64 ((x1.length : Int) - 1)) - x48)) : Int).toNat 0) x9 x47 (wrap64 (x48 + 1))) else (none)) else (if (wrap64 ((wrap64 ((x1.length : Int) - 1)) - x48)) < (x6.length : Int) then ((field_Mul.f x0 (rd x6 (wrap64 ((wrap64 ((x1.length : Int) - 1)) - x48))) x9).bind fun t953 => ((field_Mul.f x0 x9 (rd x1 (wrap64 ((wrap64 ((x1.length : Int) - 1)) - x48)))).bind fun t956 => (field_Inverses.l1 k x0 x1 x5 (x6.set ((wrap64 ((wrap64 ((x1.length : Int) - 1)) - x48)) : Int).toNat t953) t956 x47 (wrap64 (x48 + 1))))) else (none)))) else (none)) else (none)) else (some x6)
end
def field_Inverses.f (k : Nat) (a0 : Int) (l1 : List Int) : Option (List Int) := (field_P.f a0).bind fun t941 => (if t941 = 0 then (some ([] : List Int)) else (if 0 ≤ (l1.length : Int) then (if ((l1.length : Int) : Int).toNat ≤ 35184372088832 then (field_Inverses.l0 k a0 l1 t941 (List.replicate ((l1.length : Int) : Int).toNat 0) 1 (l1.length : Int) 0) else (none)) else (none)))
set_option maxHeartbeats 8000000 in
set_option maxRecDepth 100000 in
theorem field_Inverses.calls (k : Nat) (a0 : Int) (A1 : Option Addr) (c1 : Nat) (l1 : List Int) (r : List Int) (w : World) (hG : Fld w) (hr1 : Kd.C (Kd.int .u64) w A1 l1.length l1) (hc1 : l1.length ≤ c1) (h : field_Inverses.f k a0 l1 = some r) :
  Calls Tryd.prog 70 #[.int .i64 a0, .slice A1 l1.length c1] w fun e w' => ∃ v0_ : Value, e = .returned (v0_) ∧ Kd.R (Kd.int .u64) 48 w' w.heap.size (fun _ => True) v0_ r ∧ Below w.heap.size w w' := by
 have HG := ak hG
 clear hG
 have HR1 := ak hr1
 have HC1 := ak hc1
 clear hr1 hc1
 have HB := ak (Below.refl w.heap.size w)
 have H := h
 clear h
 unfold field_Inverses.f at H
 revert H
 refine bd_ fun t941 A3 H => ?_
 by_cases c4 : t941 = 0
 ·rw [if_pos c4] at H
  have c4b0 := beq_iff_eq.mpr c4
  have c4b1 := bne_eq_false_iff_eq.mpr c4
  clear c4
  obtain rfl := Option.some.inj H
  go_enter Tryd.func70, Tryd.ntmps70
  go_wp2_with (first | ((with_reducible refine gate_callee (f := 47) rfl ?_); refine gl_ (some 13) Tryd.func47 #[.int .i64 a0] ?_; (with_reducible refine (field_P.calls a0 t941 _ ?side1 A3.out).mono ?_); (case side1 => exact fU_ HG.out HB.out); rintro e w5 ⟨rfl, hb⟩; refine ⟨_, rfl, ?_⟩; refine nx1_ (below_step (bU_ HB.out) hb) ?_; clear HB; intro HB; clear hb))
  go_ret
  exact ⟨_, eW_, by first | exact Kd.R_nil _ _ _ _ _ | exact Kd.N_nil _ _ _ _ _ | exact Kd.V_nil _ _ _ _ _ | exact Kd.Q_nil _ _ _ _ _ | exact Kd.S_nil _ _ _ _ _, bU_ HB.out⟩
 rw [if_neg c4] at H
 have c4b0 := beq_eq_false_iff_ne.mpr c4
 have c4b1 := bne_iff_ne.mpr c4
 obtain ⟨c6, H⟩ : (0 ≤ (l1.length : Int)) ∧ _ := it_ H
 have c6b0 := eq_true c6
 have c6b1 := decide_eq_true c6
 clear c6
 obtain ⟨c7, H⟩ : (((l1.length : Int) : Int).toNat ≤ 35184372088832) ∧ _ := it_ H
 have c7b0 := eq_true c7
 have c7b1 := decide_eq_true c7
 clear c7
 obtain ⟨y942, hy942⟩ : ∃ y_ : List Int, y_ = (List.replicate ((l1.length : Int) : Int).toNat 0) := ⟨_, rfl⟩
 first | rw [Option.bind_some, ← hy942] at H | rw [← hy942] at H
 have Ny942 := ak hy942
 clear hy942
 have H' := ak H
 clear H
 go_enter Tryd.func70, Tryd.ntmps70
 go_wp2_with (first | ((with_reducible refine gate_callee (f := 47) rfl ?_); refine gl_ (some 13) Tryd.func47 #[.int .i64 a0] ?_; (with_reducible refine (field_P.calls a0 t941 _ ?side1 A3.out).mono ?_); (case side1 => exact fU_ HG.out HB.out); rintro e w8 ⟨rfl, hb⟩; refine ⟨_, rfl, ?_⟩; refine nx1_ (below_step (bU_ HB.out) hb) ?_; clear HB; intro HB; clear hb) | ((with_reducible refine gate_dst (N := 18) rfl ?_); refine R_make (Kd.int .u64) _ 48 rfl (N := 18) rfl 35 _ _ rfl (l1.length : Int) ?hx ?hy Tryd.underlying35 (.int .u64 0) 8 info48 rfl (by decide) (by omega) 0 (ok := fun _ => True) (okp := fun _ => True) rfl (fun _ hk => hk) trivial od_ (Nat.le_trans (Nat.mul_le_mul_right _ (od_ : (l1.length : Int).toNat ≤ 35184372088832)) (by omega)) (Below.refl _ _) (Nat.le_refl _) ?_; (case hx => first | rfl); (case hy => first | rfl); intro v943 w9 ho10 hb hg_ hnew_; clear hg_ hnew_; (first | rw [← Ny942.out] at ho10 | (simp only [Int.reduceToNat] at ho10; rw [← Ny942.out] at ho10)); refine nx2_ (R_lower ho10 (below_size (bU_ HB.out))) (below_step (bU_ HB.out) hb) ?_; clear HB; intro HO944 HB; clear hb ho10))
 go_loopg [7, 21] k (fun kq v7 v21 w' => ∃ (x6_1 : List Int) (x7_1 : Int) (x21_1 : Int), v7 = .int .u64 x7_1 ∧ v21 = .int .i64 x21_1 ∧ Aside0 (field_Inverses.l0 kq a0 l1 t941 x6_1 x7_1 (l1.length : Int) x21_1 = some r) ∧ Aside0 (kq ≤ k) ∧ Aside0 (Kd.R (Kd.int .u64) 48 w' w.heap.size (fun _ => True) v943 x6_1) ∧ Aside0 (Below w.heap.size w w'))
 case atStart => exact ⟨(y942), (1), (0), gb_, gb_, H', ⟨Nat.le_refl _⟩, ⟨rU_ HO944.out⟩, ⟨bU_ HB.out⟩⟩
 case round =>
  clear H'
  (try clear c1); (try clear p2); (try clear c4); (try clear c4b0); (try clear c4b1); (try clear c6); (try clear c6b0); (try clear c6b1); (try clear c7); (try clear c7b0); (try clear c7b1)
  obtain ⟨x6_1, x7_1, x21_1, rfl, rfl, HA, HK1, HO_6, HB⟩ := hrel
  cases gk with
  | zero => exact absurd HA.out (by simp [field_Inverses.l0])
  | succ k1 =>
   have H := HA.out
   clear HA
   simp only [field_Inverses.l0] at H
   by_cases c11 : x21_1 < (l1.length : Int)
   ·rw [if_pos c11] at H
    have c11b0 := decide_eq_true c11
    clear c11
    obtain ⟨c12, H⟩ : (0 ≤ x21_1) ∧ _ := it_ H
    have c12b0 := decide_eq_true c12
    clear c12
    obtain ⟨c13, H⟩ : (x21_1 < (x6_1.length : Int)) ∧ _ := it_ H
    have c13b0 := decide_eq_true c13
    clear c13
    obtain ⟨y945, hy945⟩ : ∃ y_ : List Int, y_ = (x6_1.set (x21_1 : Int).toNat x7_1) := ⟨_, rfl⟩
    first | rw [Option.bind_some, ← hy945] at H | rw [← hy945] at H
    have Ny945 := ak hy945
    clear hy945
    obtain ⟨c15, H⟩ : (x21_1 < (l1.length : Int)) ∧ _ := it_ H
    have c15b0 := decide_eq_true c15
    clear c15
    by_cases c16 : t941 = 0
    ·rw [if_pos c16] at H
     exact absurd H (by simp)
    rw [if_neg c16] at H
    have c16b0 := beq_eq_false_iff_ne.mpr c16
    have c16b1 := bne_iff_ne.mpr c16
    by_cases c17 : (Int.tmod (rd l1 x21_1) t941) = 0
    ·rw [if_pos c17] at H
     have c17b0 := beq_iff_eq.mpr c17
     have c17b1 := bne_eq_false_iff_eq.mpr c17
     clear c17
     have H' := ak H
     clear H
     have p14 : 0 ≤ (x21_1 : Int) := od_
     have q14 : (x21_1 : Int) < ((x6_1.length : Int) : Int) := od_
     obtain ⟨go14, co14, eo14, gb14, gl14, cl14, HG14⟩ := Kd.R_form HO_6.out (by omega)
     (first | cases eo14 | (injection eo14 with ea_ en_ ec_; (first | subst ea_ | (injection ea_ with ea_; subst ea_)); subst ec_; clear en_))
     have GB14 := ak gb14
     have GG14 := ak HG14
     clear gb14 gl14 HG14
     obtain ⟨hx14_0, hf14_0⟩ := Kd.R_celln 0 HO_6.out (x21_1 : Int) p14 q14
     replace p14 := eq_true p14
     replace q14 := eq_true q14
     have HP18 := Kd.R_putg HO_6.out (x21_1 : Int) x7_1
     go_wp2_with (first | ((with_reducible refine gate_store (t := 48) (p := 27) rfl ?_); refine store_event (t := 48) (p := 27) (v := ?vo_w19) (w1 := (wr.setCell ⟨go14, (x21_1 : Int).toNat, none⟩ (.int .u64 x7_1))) ?hg ?ho ?hn ?hr ?_; (case ho => rfl); (case hg => rfl); (case hn => rfl); (case hr => first | (go_simp; done) | (go_simp; rfl)); intro w19 hw; have hg : wr.grownBy w19 (some go14) := (by rw [hw]; exact HP18.2); have hp_ : Kd.R (Kd.int .u64) 48 w19 w.heap.size (fun _ => True) (.slice (some ⟨go14, 0, none⟩) x6_1.length co14) y945 := (by rw [hw, Ny945.out]; exact HP18.1); clear HP18; refine nx2_ (hp_) ((by rw [hw]; exact below_set (HB.out) GB14.out : Below w.heap.size w w19)) ?_; clear HO_6 HB; intro HO_6 HB; clear hg hw hp_; have p946 : 0 ≤ (x21_1 : Int) := od_; have q946 : x21_1 < (l1.length : Int) := od_; obtain ⟨ad946, e946, hx946_0⟩ := Kd.at_int HR1.out x21_1 p946 q946; cases e946; replace hx946_0 := (HB.out.cell (World.block_lt_of_cell? w _ hx946_0)).trans hx946_0; replace p946 := eq_true p946; replace q946 := eq_true q946))
     go_roundg k1
     case measure => have := HK1.out; omega
     case rel => exact ⟨(y945), (x7_1), (wrap64 (x21_1 + 1)), gb_, gb_, H', ⟨by have := HK1.out; omega⟩, ⟨rU_ HO_6.out⟩, ⟨bU_ HB.out⟩⟩
    rw [if_neg c17] at H
    have c17b0 := beq_eq_false_iff_ne.mpr c17
    have c17b1 := bne_iff_ne.mpr c17
    revert H
    refine bd_ fun t948 A20 H => ?_
    have H' := ak H
    clear H
    have p14 : 0 ≤ (x21_1 : Int) := od_
    have q14 : (x21_1 : Int) < ((x6_1.length : Int) : Int) := od_
    obtain ⟨go14, co14, eo14, gb14, gl14, cl14, HG14⟩ := Kd.R_form HO_6.out (by omega)
    (first | cases eo14 | (injection eo14 with ea_ en_ ec_; (first | subst ea_ | (injection ea_ with ea_; subst ea_)); subst ec_; clear en_))
    have GB14 := ak gb14
    have GG14 := ak HG14
    clear gb14 gl14 HG14
    obtain ⟨hx14_0, hf14_0⟩ := Kd.R_celln 0 HO_6.out (x21_1 : Int) p14 q14
    replace p14 := eq_true p14
    replace q14 := eq_true q14
    have HP21 := Kd.R_putg HO_6.out (x21_1 : Int) x7_1
    go_wp2_with (first | ((with_reducible refine gate_store (t := 48) (p := 27) rfl ?_); refine store_event (t := 48) (p := 27) (v := ?vo_w22) (w1 := (wr.setCell ⟨go14, (x21_1 : Int).toNat, none⟩ (.int .u64 x7_1))) ?hg ?ho ?hn ?hr ?_; (case ho => rfl); (case hg => rfl); (case hn => rfl); (case hr => first | (go_simp; done) | (go_simp; rfl)); intro w22 hw; have hg : wr.grownBy w22 (some go14) := (by rw [hw]; exact HP21.2); have hp_ : Kd.R (Kd.int .u64) 48 w22 w.heap.size (fun _ => True) (.slice (some ⟨go14, 0, none⟩) x6_1.length co14) y945 := (by rw [hw, Ny945.out]; exact HP21.1); clear HP21; refine nx2_ (hp_) ((by rw [hw]; exact below_set (HB.out) GB14.out : Below w.heap.size w w22)) ?_; clear HO_6 HB; intro HO_6 HB; clear hg hw hp_; have p946 : 0 ≤ (x21_1 : Int) := od_; have q946 : x21_1 < (l1.length : Int) := od_; obtain ⟨ad946, e946, hx946_0⟩ := Kd.at_int HR1.out x21_1 p946 q946; cases e946; replace hx946_0 := (HB.out.cell (World.block_lt_of_cell? w _ hx946_0)).trans hx946_0; replace p946 := eq_true p946; replace q946 := eq_true q946; have p947 : 0 ≤ (x21_1 : Int) := od_; have q947 : x21_1 < (l1.length : Int) := od_; obtain ⟨ad947, e947, hx947_0⟩ := Kd.at_int HR1.out x21_1 p947 q947; obtain rfl : ad946 = ad947 := (by injection e947); replace hx947_0 := (HB.out.cell (World.block_lt_of_cell? w _ hx947_0)).trans hx947_0; replace p947 := eq_true p947; replace q947 := eq_true q947) | ((with_reducible refine gate_callee (f := 37) rfl ?_); refine gl_ (some 41) Tryd.func37 #[.int .i64 a0, .int .u64 x7_1, .int .u64 (rd l1 x21_1)] ?_; (with_reducible refine (field_Mul.calls a0 x7_1 (rd l1 x21_1) t948 _ ?side1 A20.out).mono ?_); (case side1 => exact fU_ HG.out HB.out); rintro e w23 ⟨rfl, hb⟩; refine ⟨_, rfl, ?_⟩; refine nx2_ (R_below (rU_ HO_6.out) hb) (below_step (bU_ HB.out) hb) ?_; clear HO_6 HB; intro HO_6 HB; clear hb))
    go_roundg k1
    case measure => have := HK1.out; omega
    case rel => exact ⟨(y945), (t948), (wrap64 (x21_1 + 1)), gb_, gb_, H', ⟨by have := HK1.out; omega⟩, ⟨rU_ HO_6.out⟩, ⟨bU_ HB.out⟩⟩
   rw [if_neg c11] at H
   have c11b0 := decide_eq_false c11
   clear c11
   revert H
   refine bd_ fun t949 A24 H => ?_
   have H' := ak H
   clear H
   go_wp2_with (first | ((with_reducible refine gate_callee (f := 112) rfl ?_); refine gl_ (some 45) Tryd.func112 #[.int .i64 a0, .int .u64 x7_1] ?_; (with_reducible refine (field_Inv.calls k1 a0 x7_1 t949 _ ?side1 A24.out).mono ?_); (case side1 => exact fU_ HG.out HB.out); rintro e w25 ⟨rfl, hb⟩; refine ⟨_, rfl, ?_⟩; refine nx2_ (R_below (rU_ HO_6.out) hb) (below_step (bU_ HB.out) hb) ?_; clear HO_6 HB; intro HO_6 HB; clear hb))
   go_loopg [9, 48] k1 (fun kq v9 v48 w' => ∃ (x6_2 : List Int) (x9_2 : Int) (x48_2 : Int), v9 = .int .u64 x9_2 ∧ v48 = .int .i64 x48_2 ∧ Aside0 (field_Inverses.l1 kq a0 l1 t941 x6_2 x9_2 (l1.length : Int) x48_2 = some r) ∧ Aside0 (kq ≤ k1) ∧ Aside0 (Kd.R (Kd.int .u64) 48 w' w.heap.size (fun _ => True) v943 x6_2) ∧ Aside0 (Below w.heap.size w w'))
   case atStart => exact ⟨(x6_1), (t949), (0), gb_, gb_, H', ⟨Nat.le_refl _⟩, ⟨rU_ HO_6.out⟩, ⟨bU_ HB.out⟩⟩
   case round =>
    clear H'
    (try clear c1); (try clear p1); (try clear q1); (try clear hx1); (try clear p2); (try clear c3); (try clear c4); (try clear c4b0); (try clear c4b1); (try clear c6); (try clear c6b0); (try clear c6b1); (try clear p6); (try clear c7); (try clear c7b0); (try clear c7b1); (try clear p9); (try clear q9); (try clear hx9); (try clear c11); (try clear c11b0); (try clear c12); (try clear c12b0); (try clear c13); (try clear c13b0); (try clear p14); (try clear q14); (try clear hx14); (try clear hf14); (try clear c15); (try clear c15b0); (try clear c16); (try clear c16b0); (try clear c16b1); (try clear c17); (try clear c17b0); (try clear c17b1); (try clear hx14_0); (try clear hx946_0); (try clear hx947_0); (try clear p946); (try clear p947); (try clear q946); (try clear q947)
    obtain ⟨x6_2, x9_2, x48_2, rfl, rfl, HA, HK2, HO_6, HB⟩ := hrel
    cases gk with
    | zero => exact absurd HA.out (by simp [field_Inverses.l1])
    | succ k2 =>
     have H := HA.out
     clear HA
     simp only [field_Inverses.l1] at H
     by_cases c26 : x48_2 < (l1.length : Int)
     ·rw [if_pos c26] at H
      have c26b0 := decide_eq_true c26
      clear c26
      obtain ⟨ji27, hji27⟩ : ∃ j_ : Int, (wrap64 ((wrap64 ((l1.length : Int) - 1)) - x48_2)) = j_ := ⟨_, rfl⟩
      first | rw [hji27] at H | simp only [hji27] at H
      have hji27w : (IntKind.i64.wrap ((wrap64 ((l1.length : Int) - 1)) - x48_2)) = ji27 := (i64_w _).trans hji27
      obtain ⟨c28, H⟩ : (0 ≤ (ji27)) ∧ _ := it_ H
      have c28b0 := decide_eq_true c28
      clear c28
      obtain ⟨c29, H⟩ : ((ji27) < (l1.length : Int)) ∧ _ := it_ H
      have c29b0 := decide_eq_true c29
      clear c29
      by_cases c30 : t941 = 0
      ·rw [if_pos c30] at H
       exact absurd H (by simp)
      rw [if_neg c30] at H
      have c30b0 := beq_eq_false_iff_ne.mpr c30
      have c30b1 := bne_iff_ne.mpr c30
      by_cases c31 : (Int.tmod (rd l1 (ji27)) t941) = 0
      ·rw [if_pos c31] at H
       have c31b0 := beq_iff_eq.mpr c31
       have c31b1 := bne_eq_false_iff_eq.mpr c31
       clear c31
       obtain ⟨c32, H⟩ : ((ji27) < (x6_2.length : Int)) ∧ _ := it_ H
       have c32b0 := decide_eq_true c32
       clear c32
       obtain ⟨y951, hy951⟩ : ∃ y_ : List Int, y_ = (x6_2.set ((ji27) : Int).toNat 0) := ⟨_, rfl⟩
       first | rw [Option.bind_some, ← hy951] at H | rw [← hy951] at H
       have Ny951 := ak hy951
       clear hy951
       have H' := ak H
       clear H
       have p950 : 0 ≤ ((ji27) : Int) := od_
       have q950 : (ji27) < (l1.length : Int) := od_
       obtain ⟨ad950, e950, hx950_0⟩ := Kd.at_int HR1.out (ji27) p950 q950
       cases e950
       replace hx950_0 := (HB.out.cell (World.block_lt_of_cell? w _ hx950_0)).trans hx950_0
       replace p950 := eq_true p950
       replace q950 := eq_true q950
       have p33 : 0 ≤ ((ji27) : Int) := od_
       have q33 : ((ji27) : Int) < ((x6_2.length : Int) : Int) := od_
       obtain ⟨go33, co33, eo33, gb33, gl33, cl33, HG33⟩ := Kd.R_form HO_6.out (by omega)
       (first | cases eo33 | (injection eo33 with ea_ en_ ec_; (first | subst ea_ | (injection ea_ with ea_; subst ea_)); subst ec_; clear en_))
       have GB33 := ak gb33
       have GG33 := ak HG33
       clear gb33 gl33 HG33
       obtain ⟨hx33_0, hf33_0⟩ := Kd.R_celln 0 HO_6.out ((ji27) : Int) p33 q33
       replace p33 := eq_true p33
       replace q33 := eq_true q33
       have HP34 := Kd.R_putg HO_6.out ((ji27) : Int) 0
       go_wp2_with (first | ((with_reducible refine gate_store (t := 48) (p := 65) rfl ?_); refine store_event (t := 48) (p := 65) (v := ?vo_w35) (w1 := (wr.setCell ⟨go33, ((ji27) : Int).toNat, none⟩ (.int .u64 0))) ?hg ?ho ?hn ?hr ?_; (case ho => rfl); (case hg => rfl); (case hn => rfl); (case hr => first | (go_simp; done) | (go_simp; rfl)); intro w35 hw; have hg : wr.grownBy w35 (some go33) := (by rw [hw]; exact HP34.2); have hp_ : Kd.R (Kd.int .u64) 48 w35 w.heap.size (fun _ => True) (.slice (some ⟨go33, 0, none⟩) x6_2.length co33) y951 := (by rw [hw, Ny951.out]; exact HP34.1); clear HP34; refine nx2_ (hp_) ((by rw [hw]; exact below_set (HB.out) GB33.out : Below w.heap.size w w35)) ?_; clear HO_6 HB; intro HO_6 HB; clear hg hw hp_))
       go_roundg k2
       case measure => have := HK1.out; have := HK2.out; omega
       case rel => exact ⟨(y951), (x9_2), (wrap64 (x48_2 + 1)), gb_, gb_, H', ⟨by have := HK1.out; have := HK2.out; omega⟩, ⟨rU_ HO_6.out⟩, ⟨bU_ HB.out⟩⟩
      rw [if_neg c31] at H
      have c31b0 := beq_eq_false_iff_ne.mpr c31
      have c31b1 := bne_iff_ne.mpr c31
      obtain ⟨c36, H⟩ : ((ji27) < (x6_2.length : Int)) ∧ _ := it_ H
      have c36b0 := decide_eq_true c36
      clear c36
      revert H
      refine bd_ fun t953 A37 H => ?_
      obtain ⟨y954, hy954⟩ : ∃ y_ : List Int, y_ = (x6_2.set ((ji27) : Int).toNat t953) := ⟨_, rfl⟩
      first | rw [Option.bind_some, ← hy954] at H | rw [← hy954] at H
      have Ny954 := ak hy954
      clear hy954
      revert H
      refine bd_ fun t956 A39 H => ?_
      have H' := ak H
      clear H
      have p950 : 0 ≤ ((ji27) : Int) := od_
      have q950 : (ji27) < (l1.length : Int) := od_
      obtain ⟨ad950, e950, hx950_0⟩ := Kd.at_int HR1.out (ji27) p950 q950
      cases e950
      replace hx950_0 := (HB.out.cell (World.block_lt_of_cell? w _ hx950_0)).trans hx950_0
      replace p950 := eq_true p950
      replace q950 := eq_true q950
      obtain ⟨Ao41, co41, eo41⟩ := R_slice HO_6.out
      subst eo41
      have pfr40 : 0 ≤ ((ji27) : Int) := od_
      have qfr40 : ((ji27) : Int) < ((x6_2.length : Int) : Int) := od_
      obtain ⟨gofr40, cofr40, eofr40, gbfr40, glfr40, clfr40, HGfr40⟩ := Kd.R_form HO_6.out (by omega)
      (first | cases eofr40 | (injection eofr40 with ea_ en_ ec_; (first | subst ea_ | (injection ea_ with ea_; subst ea_)); subst ec_; clear en_))
      have GBfr40 := ak gbfr40
      have GGfr40 := ak HGfr40
      clear gbfr40 glfr40 HGfr40
      clear pfr40 qfr40
      have p952 : 0 ≤ ((ji27) : Int) := od_
      have q952 : (ji27) < (x6_2.length : Int) := od_
      obtain ⟨ad952, e952, hx952_0⟩ := Kd.at_int (R_reads' HO_6.out).2.2 (ji27) p952 q952
      obtain rfl : (⟨gofr40, 0, none⟩ : Addr) = ad952 := (by injection e952)
      (first | simp only [add_plain] at hx952_0 | simp only [add_at] at hx952_0 | simp only [Addr.add, Nat.zero_add] at hx952_0 | skip)
      replace p952 := eq_true p952
      replace q952 := eq_true q952
      go_wp2_with (first | ((with_reducible refine gate_callee (f := 37) rfl ?_); refine goesL_ (some 74) rfl rfl Tryd.func37 (by kernel_rfl) rfl #[.int .i64 a0, .int .u64 (rd x6_2 (ji27)), .int .u64 x9_2] rfl (by (try simp only [List.map_toArray, List.map_cons, List.map_nil]); first | done | (simp only [hji27]; rfl) | rfl | (simp only [List.length_drop, List.length_take]; rfl)) ?_; (with_reducible refine (field_Mul.calls a0 (rd x6_2 (ji27)) x9_2 t953 _ ?side1 A37.out).mono ?_); (case side1 => exact fU_ HG.out HB.out); rintro e w42 ⟨rfl, hb⟩; refine ⟨_, rfl, ?_⟩; refine nx2_ (R_below (rU_ HO_6.out) hb) (below_step (bU_ HB.out) hb) ?_; clear HO_6 HB; intro HO_6 HB; clear hb; have p38 : 0 ≤ ((ji27) : Int) := od_; have q38 : ((ji27) : Int) < ((x6_2.length : Int) : Int) := od_; obtain ⟨hx38_0, hf38_0⟩ := Kd.R_celln 0 HO_6.out ((ji27) : Int) p38 q38; replace p38 := eq_true p38; replace q38 := eq_true q38; obtain ⟨hy43_, hz43_⟩ := Kd.R_celln 0 HO_6.out ((ji27) : Int) od_ od_; have HP43 := Kd.R_putg HO_6.out ((ji27) : Int) t953) | ((with_reducible refine gate_store (t := 48) (p := 75) rfl ?_); refine store_event (t := 48) (p := 75) (v := ?vo_w44) (w1 := (w42.setCell ⟨gofr40, ((ji27) : Int).toNat, none⟩ (.int .u64 t953))) ?hg ?ho ?hn ?hr ?_; (case ho => rfl); (case hg => rfl); (case hn => rfl); (case hr => first | (go_simp; done) | (go_simp; rfl)); intro w44 hw; have hg : w42.grownBy w44 (some gofr40) := (by rw [hw]; exact HP43.2); have hp_ : Kd.R (Kd.int .u64) 48 w44 w.heap.size (fun _ => True) (.slice (some ⟨gofr40, 0, none⟩) x6_2.length co41) y954 := (by rw [hw, Ny954.out]; exact HP43.1); clear HP43; refine nx2_ (hp_) ((by rw [hw]; exact below_set (HB.out) GBfr40.out : Below w.heap.size w w44)) ?_; clear HO_6 HB; intro HO_6 HB; clear hg hw hp_; have p955 : 0 ≤ ((ji27) : Int) := od_; have q955 : (ji27) < (l1.length : Int) := od_; obtain ⟨ad955, e955, hx955_0⟩ := Kd.at_int HR1.out (ji27) p955 q955; obtain rfl : ad950 = ad955 := (by injection e955); replace hx955_0 := (HB.out.cell (World.block_lt_of_cell? w _ hx955_0)).trans hx955_0; replace p955 := eq_true p955; replace q955 := eq_true q955) | ((with_reducible refine gate_callee (f := 37) rfl ?_); refine goesL_ (some 82) rfl rfl Tryd.func37 (by kernel_rfl) rfl #[.int .i64 a0, .int .u64 x9_2, .int .u64 (rd l1 (ji27))] rfl (by (try simp only [List.map_toArray, List.map_cons, List.map_nil]); first | done | (simp only [hji27]; rfl) | rfl | (simp only [List.length_drop, List.length_take]; rfl)) ?_; (with_reducible refine (field_Mul.calls a0 x9_2 (rd l1 (ji27)) t956 _ ?side1 A39.out).mono ?_); (case side1 => exact fU_ HG.out HB.out); rintro e w45 ⟨rfl, hb⟩; refine ⟨_, rfl, ?_⟩; refine nx2_ (R_below (rU_ HO_6.out) hb) (below_step (bU_ HB.out) hb) ?_; clear HO_6 HB; intro HO_6 HB; clear hb))
      go_roundg k2
      case measure => have := HK1.out; have := HK2.out; omega
      case rel => exact ⟨(y954), (t956), (wrap64 (x48_2 + 1)), gb_, gb_, H', ⟨by have := HK1.out; have := HK2.out; omega⟩, ⟨rU_ HO_6.out⟩, ⟨bU_ HB.out⟩⟩
     rw [if_neg c26] at H
     have c26b0 := decide_eq_false c26
     clear c26
     obtain rfl := Option.some.inj H
     go_wp2
     go_ret
     exact ⟨_, eW_, rU_ HO_6.out, bU_ HB.out⟩

def field_Dot.l0 : Nat → Int → List Int → List Int → Int → Int → Int → Option (Int)
 | 0, _, _, _, _, _, _ => none
 | k + 1, x0, x1, x2, x7, x13, x14 => if x14 < x13 then (if 0 ≤ x14 then (if x14 < (x1.length : Int) then (if x14 < (x2.length : Int) then ((field_Mul.f x0 (rd x1 x14) (rd x2 x14)).bind fun t959 => ((field_Add.f x0 x7 t959).bind fun t960 => (field_Dot.l0 k x0 x1 x2 t960 x13 (wrap64 (x14 + 1))))) else (none)) else (none)) else (none)) else (some x7)
def field_Dot.f (k : Nat) (a0 : Int) (l1 : List Int) (l2 : List Int) : Option (Int) := field_Dot.l0 k a0 l1 l2 0 (mn (l1.length : Int) (l2.length : Int)) 0
def field_Dot.T5 : Bool × List (List Nat × List Nat) := (true, [([], []), ([], []), ([], []), ([], []), ([], []), ([3, 4], [3, 4]), ([5], [5]), ([], []), ([], []), ([7, 8], [7, 8]), ([9], [9]), ([2, 6, 10], [2, 6, 10]), ([0, 1, 11, 11], [0, 1, 11]), ([12, 12, 0, 1, 2, 3, 4, 5, 6, 7, 8, 9, 10, 11, 12], [1, 12])])
def field_Dot.B5 : List Nat := [0, 0, 0, 0, 0, 24, 56, 0, 0, 384, 896, 2044, 4095, 8191]
theorem field_Dot.tab5 : rtab .any (opsOf Tryd.f71 5) = field_Dot.T5 := by kernel_rfl
theorem field_Dot.bits5 : waitsOk field_Dot.T5.2 field_Dot.B5 = true := by kernel_rfl
set_option maxHeartbeats 8000000 in
set_option maxRecDepth 100000 in
theorem field_Dot.calls (k : Nat) (a0 : Int) (A1 : Option Addr) (c1 : Nat) (l1 : List Int) (A2 : Option Addr) (c2 : Nat) (l2 : List Int) (r : Int) (w : World) (hG : Fld w) (hr1 : Kd.C (Kd.int .u64) w A1 l1.length l1) (hc1 : l1.length ≤ c1) (hr2 : Kd.C (Kd.int .u64) w A2 l2.length l2) (hc2 : l2.length ≤ c2) (h : field_Dot.f k a0 l1 l2 = some r) :
  Calls Tryd.prog 71 #[.int .i64 a0, .slice A1 l1.length c1, .slice A2 l2.length c2] w fun e w' => e = .returned (.int .u64 r) ∧ Below w.heap.size w w' := by
 have HG := ak hG
 clear hG
 have HR1 := ak hr1
 have HC1 := ak hc1
 clear hr1 hc1
 have HR2 := ak hr2
 have HC2 := ak hc2
 clear hr2 hc2
 have HB := ak (Below.refl w.heap.size w)
 have H : (field_Dot.l0 k a0 l1 l2 0 (mn (l1.length : Int) (l2.length : Int)) 0) = some r := h
 clear h
 obtain ⟨ji4, hji4⟩ : ∃ j_ : Int, (mn (l1.length : Int) (l2.length : Int)) = j_ := ⟨_, rfl⟩
 first | rw [hji4] at H | simp only [hji4] at H
 (try (have hji4l : 0 ≤ ji4 := by (rw [← hji4]; unfold mn; (repeat' split) <;> omega)))
 (try (have hji4m : 0 ≤ ji4 := by omega))
 have hji4_ : (if (l2.length : Int) < (l1.length : Int) then (l2.length : Int) else (l1.length : Int)) = ji4 := hji4
 have hji4n : (if l2.length < l1.length then (l2.length : Int) else (l1.length : Int)) = ji4 := by rw [← hji4_]; by_cases c_ : l2.length < l1.length; exact (if_pos c_).trans (if_pos (Int.ofNat_lt.2 c_)).symm; exact (if_neg c_).trans (if_neg (fun q_ => c_ (Int.ofNat_lt.1 q_))).symm
 have H' := ak H
 clear H
 go_enter Tryd.func71, Tryd.ntmps71
 go_wp2
 go_loopg [7, 14] k (fun kq v7 v14 w' => ∃ (x7_1 : Int) (x14_1 : Int), v7 = .int .u64 x7_1 ∧ v14 = .int .i64 x14_1 ∧ Aside0 (field_Dot.l0 kq a0 l1 l2 x7_1 ji4 x14_1 = some r) ∧ Aside0 (kq ≤ k) ∧ Aside0 (Below w.heap.size w w'))
 case atStart => exact ⟨(0), (0), gb_, gb_, H', ⟨Nat.le_refl _⟩, ⟨bU_ HB.out⟩⟩
 case round =>
  clear H'
  (try clear c1); (try clear c2); (try clear p2)
  obtain ⟨x7_1, x14_1, rfl, rfl, HA, HK1, HB⟩ := hrel
  cases gk with
  | zero => exact absurd HA.out (by simp [field_Dot.l0])
  | succ k1 =>
   have H := HA.out
   clear HA
   simp only [field_Dot.l0] at H
   by_cases c5 : x14_1 < ji4
   ·rw [if_pos c5] at H
    have c5b0 := decide_eq_true c5
    clear c5
    obtain ⟨c6, H⟩ : (0 ≤ x14_1) ∧ _ := it_ H
    have c6b0 := decide_eq_true c6
    clear c6
    obtain ⟨c7, H⟩ : (x14_1 < (l1.length : Int)) ∧ _ := it_ H
    have c7b0 := decide_eq_true c7
    clear c7
    obtain ⟨c8, H⟩ : (x14_1 < (l2.length : Int)) ∧ _ := it_ H
    have c8b0 := decide_eq_true c8
    clear c8
    revert H
    refine bd_ fun t959 A9 H => ?_
    revert H
    refine bd_ fun t960 A10 H => ?_
    have H' := ak H
    clear H
    try go_wp2
    refine nx1_ (below_drew1 HB.out) ?_
    clear HB
    intro HB
    have p957 : 0 ≤ (x14_1 : Int) := od_
    have q957 : x14_1 < (l1.length : Int) := od_
    obtain ⟨ad957, e957, hx957_0⟩ := Kd.at_int HR1.out x14_1 p957 q957
    have hw957_0 := hx957_0
    cases e957
    replace hx957_0 := (HB.out.cell (World.block_lt_of_cell? w _ hx957_0)).trans hx957_0
    replace p957 := eq_true p957
    replace q957 := eq_true q957
    have p958 : 0 ≤ (x14_1 : Int) := od_
    have q958 : x14_1 < (l2.length : Int) := od_
    obtain ⟨ad958, e958, hx958_0⟩ := Kd.at_int HR2.out x14_1 p958 q958
    have hw958_0 := hx958_0
    cases e958
    replace hx958_0 := (HB.out.cell (World.block_lt_of_cell? w _ hx958_0)).trans hx958_0
    replace p958 := eq_true p958
    replace q958 := eq_true q958
    refine start_ (n := 14) (S := fun w' => w'.cell? (ad957.add (x14_1).toNat) = some (.int .u64 (rd l1 x14_1)) ∧ w'.cell? (ad958.add (x14_1).toNat) = some (.int .u64 (rd l2 x14_1))) (ds := []) (bv 14 0) (by kernel_rfl) rfl rfl ⟨((HB.out.cell (World.block_lt_of_cell? w _ hw957_0)).trans hw957_0), ((HB.out.cell (World.block_lt_of_cell? w _ hw958_0)).trans hw958_0)⟩ (fun hHeld => ?_); refine with_tabW field_Dot.tab5 field_Dot.bits5 (fun HT_ HW_ => ?_)
    generalize wr.drew = w11 at HB hx957_0 hx958_0 hHeld ⊢
    refine pq_ 0 17 14 1 HT_.out ?_
    refine pq_ 1 18 14 3 HT_.out ?_
    refine pq_ 2 19 14 7 HT_.out ?_
    refine pq_ 3 20 14 15 HT_.out ?_
    refine pq_ 4 21 14 31 HT_.out ?_
    refine pq_ 5 22 14 63 HT_.out ?_
    refine pq_ 7 24 14 191 HT_.out ?_
    refine pq_ 8 25 14 447 HT_.out ?_
    refine pq_ 9 26 14 959 HT_.out ?_
    refine tq_ 6 23 14 1023 HT_.out HW_.out hHeld ?_
    refine tq_ 10 27 14 2047 HT_.out HW_.out hHeld ?_
    refine oq_ 11 28 14 4095 HT_.out fun K hK => ?_
    refine gs_ Tryd.func37 #[.int .i64 a0, .int .u64 (rd l1 x14_1), .int .u64 (rd l2 x14_1)] ?_
    with_reducible refine (field_Mul.calls a0 (rd l1 x14_1) (rd l2 x14_1) t959 _ ?side1 A9.out).mono ?_
    (case side1 => exact fU_ HG.out HB.out)
    rintro e w12 ⟨rfl, hb⟩
    refine ⟨_, rfl, ?_⟩
    refine nx1_ (below_step (bU_ HB.out) hb) ?_
    clear HB
    intro HB
    (try clear hb)
    (try clear hb2)
    (try clear hk)
    (try clear hi)
    refine hK.out _ _ ⟨((HB.out.cell (World.block_lt_of_cell? w _ hw957_0)).trans hw957_0), ((HB.out.cell (World.block_lt_of_cell? w _ hw958_0)).trans hw958_0)⟩ (fun hHeld => ?_)
    clear hK K
    refine norm_ (a' := ?_) ?_ ?_
    rotate_left
    ·show Act.put _ (some 28) _ = _
     simp only [Act.put, s1_, s2_, s3_, i64_w, i32_w]
     rfl
    refine oq_ 12 29 14 8191 HT_.out fun K hK => ?_
    refine gs_ Tryd.func25 #[.int .i64 a0, .int .u64 x7_1, .int .u64 t959] ?_
    with_reducible refine (field_Add.calls a0 x7_1 t959 t960 _ ?side1 A10.out).mono ?_
    (case side1 => exact fU_ HG.out HB.out)
    rintro e w13 ⟨rfl, hb⟩
    refine ⟨_, rfl, ?_⟩
    refine nx1_ (below_step (bU_ HB.out) hb) ?_
    clear HB
    intro HB
    (try clear hb)
    (try clear hb2)
    (try clear hk)
    (try clear hi)
    refine hK.out _ _ ⟨((HB.out.cell (World.block_lt_of_cell? w _ hw957_0)).trans hw957_0), ((HB.out.cell (World.block_lt_of_cell? w _ hw958_0)).trans hw958_0)⟩ (fun hHeld => ?_)
    clear hK K
    refine norm_ (a' := ?_) ?_ ?_
    rotate_left
    ·show Act.put _ (some 29) _ = _
     simp only [Act.put, s1_, s2_, s3_, i64_w, i32_w]
     rfl
    refine pq_ 13 7 14 16383 HT_.out ?_
    refine done_ (done_of HT_.out (by kernel_rfl)) ?_
    try go_wp2
    go_roundg k1
    case measure => have := HK1.out; omega
    case rel => exact ⟨(t960), (wrap64 (x14_1 + 1)), gb_, gb_, H', ⟨by have := HK1.out; omega⟩, ⟨bU_ HB.out⟩⟩
   rw [if_neg c5] at H
   have c5b0 := decide_eq_false c5
   clear c5
   obtain rfl := Option.some.inj H
   go_wp2
   go_ret
   exact ⟨by first | rfl | (simp [errW_none, errW_some] <;> rfl) | (simp only [← hji4]; first | rfl | (simp [errW_none, errW_some] <;> rfl)) | (simp [*, errW_none, errW_some] <;> rfl), bU_ HB.out⟩

section
open Go.Shelf
attribute [local go_sem] Oper.semAt_some
theorem exit_then_ {N : Act → World → Prop} {Q : Exit → Act → World → Prop} {id : Nat} {a : Act} {w : World} (h : Q .normal a w) : Exit.then N (Exit.inBlock id Q) (.exit id) a w := by
 show (if id = id then Q .normal a w else Q (.exit id) a w)
 rw [if_pos rfl]
 exact h
def gap_Found.l0 (k : Nat) (f : Int) (p : Nat) (l1 l2 : List (List Int)) (l3 : List Int) : List Nat → Int → Option Int
 | [], n => some n
 | t :: ts, n => (gap_values.f k f l1 ((t / p : Nat) : Int) ((t % p : Nat) : Int)).bind fun u => (gap_values.f k f l2 ((t / p : Nat) : Int) ((t % p : Nat) : Int)).bind fun v => (gap_product.f k f u).bind fun x => if x = 0 then gap_Found.l0 k f p l1 l2 l3 ts n else (gap_product.f k f v).bind fun y => if y = 0 then gap_Found.l0 k f p l1 l2 l3 ts n else
  (field_Inverses.f k f u).bind fun iu => (field_Sum.f k f iu).bind fun s => (field_Inverses.f k f v).bind fun iv => (field_Dot.f k f l3 iv).bind fun d => gap_Found.l0 k f p l1 l2 l3 ts (if s = d then wrap64 (n + 1) else n)
def gap_Found.f (k : Nat) (a0 : Int) (l1 l2 : List (List Int)) (l3 : List Int) : Option (Int × Int) := (gap_tuples.f a0 l1 l2).bind fun e => if ((l2.length : Int) != (l3.length : Int)) = true then some (0, 1) else if (e != 0) = true then some (0, e) else (field_P.f a0).bind fun P => (gap_Found.l0 k a0 P.toNat l1 l2 l3 (List.range (P.toNat * P.toNat)) 0).bind fun n => some (n, 0)
structure FB (k : Nat) (a0 : Int) (p : Nat) (A1 : Option Addr) (c1 : Nat) (l1 : List (List Int)) (A2 : Option Addr) (c2 : Nat) (l2 : List (List Int)) (A3 : Option Addr) (c3 : Nat) (l3 : List Int) (r : Int) (w : World) (nb : Nat) (xs : List Nat) (n : Int) (W : World) : Prop where
 on : gap_Found.l0 k a0 p l1 l2 l3 xs n = some r
 bf : W.heap[w.heap.size]? = some (.cells #[.int .i64 a0] 3 (0, 0))
 bl : W.heap[w.heap.size + 1]? = some (.cells #[.slice A1 l1.length c1] 42 (0, 0))
 br : W.heap[w.heap.size + 1 + 1]? = some (.cells #[.slice A2 l2.length c2] 42 (0, 0))
 bc : W.heap[w.heap.size + 1 + 1 + 1]? = some (.cells #[.slice A3 l3.length c3] 35 (0, 0))
 bn : W.heap[nb]? = some (.cells #[.int .i64 n] 3 (0, 0))
 bel : Below w.heap.size w W
section
variable {k : Nat} {a0 : Int} {p : Nat} {A1 : Option Addr} {c1 : Nat} {l1 : List (List Int)} {A2 : Option Addr} {c2 : Nat} {l2 : List (List Int)} {A3 : Option Addr} {c3 : Nat} {l3 : List Int} {r : Int} {w : World} {nb : Nat} {xs : List Nat} {n : Int} {W W' : World}
theorem FB.below (h : FB k a0 p A1 c1 l1 A2 c2 l2 A3 c3 l3 r w nb xs n W) (hb : Below W.heap.size W W') : FB k a0 p A1 c1 l1 A2 c2 l2 A3 c3 l3 r w nb xs n W' := ⟨h.on, blk_below h.bf hb, blk_below h.bl hb, blk_below h.br hb, blk_below h.bc hb, blk_below h.bn hb, below_step h.bel hb⟩
theorem FB.own (s : Nat) (hs : w.heap.size ≤ s) (F : Nat → List Nat) : OwnFrom s (fun (i : Nat) W => ∃ n, FB k a0 p A1 c1 l1 A2 c2 l2 A3 c3 l3 r w nb (F i) n W) := by
 rintro i X Y row ⟨n, h⟩ hg hr
 have hne : ∀ {b : Nat} {c : Array Value} {t : TypeId} {g : Nat × Nat}, X.heap[b]? = some (.cells c t g) → some b ≠ row := by
  intro b c t g hb e
  obtain ⟨_, o, ho, hc⟩ := hr b e.symm
  rw [hb] at ho
  cases ho
  simp [Obj.isCells] at hc
 exact ⟨n, h.on, blk_grown h.bf hg (hne h.bf), blk_grown h.bl hg (hne h.bl), blk_grown h.br hg (hne h.br), blk_grown h.bc hg (hne h.bc), blk_grown h.bn hg (hne h.bn), h.bel.grown hg h.bel.size fun b e => Nat.le_trans hs (hr b e).1⟩
theorem FB.put {ys : List Nat} (h : FB k a0 p A1 c1 l1 A2 c2 l2 A3 c3 l3 r w nb xs n W) (m : Int) (hon : gap_Found.l0 k a0 p l1 l2 l3 ys m = some r) (h1 : w.heap.size + 1 + 1 + 1 < nb) : FB k a0 p A1 c1 l1 A2 c2 l2 A3 c3 l3 r w nb ys m (W.setCell ⟨nb, 0, none⟩ (.int .i64 m)) :=
 ⟨hon, blk_far h.bf (p := ⟨nb, 0, none⟩) (by show w.heap.size ≠ nb; omega) _, blk_far h.bl (p := ⟨nb, 0, none⟩) (by show w.heap.size + 1 ≠ nb; omega) _, blk_far h.br (p := ⟨nb, 0, none⟩) (by show w.heap.size + 1 + 1 ≠ nb; omega) _, blk_far h.bc (p := ⟨nb, 0, none⟩) (by show w.heap.size + 1 + 1 + 1 ≠ nb; omega) _, blk_put (cs := #[.int .i64 n]) h.bn 0 _ rfl, below_set h.bel (by omega)⟩
theorem FB.to {ys : List Nat} (h : FB k a0 p A1 c1 l1 A2 c2 l2 A3 c3 l3 r w nb xs n W) (hon : gap_Found.l0 k a0 p l1 l2 l3 ys n = some r) : FB k a0 p A1 c1 l1 A2 c2 l2 A3 c3 l3 r w nb ys n W := ⟨hon, h.bf, h.bl, h.br, h.bc, h.bn, h.bel⟩
end
set_option maxRecDepth 100000 in
set_option maxHeartbeats 8000000 in
theorem gap_Found_main (k : Nat) (a0 : Int) (A1 : Option Addr) (c1 : Nat) (l1 : List (List Int)) (A2 : Option Addr) (c2 : Nat) (l2 : List (List Int)) (A3 : Option Addr) (c3 : Nat) (l3 : List Int) (r : Int) (w : World) (HG : Aside0 (Fld w)) (HR1 : Aside0 (Kd.C (Kd.slice 48 (Kd.int .u64)) w A1 l1.length l1)) (hc1 : l1.length ≤ c1) (HR2 : Aside0 (Kd.C (Kd.slice 48 (Kd.int .u64)) w A2 l2.length l2)) (hc2 : l2.length ≤ c2) (HR3 : Aside0 (Kd.C (Kd.int .u64) w A3 l3.length l3)) (hc3 : l3.length ≤ c3)
  (HV : Aside0 (gap_tuples.f a0 l1 l2 = some 0)) (e1 : ((l2.length : Int) != (l3.length : Int)) = false) (p : Nat) (HP : Aside0 (field_P.f a0 = some (p : Int))) (hp32 : p ≤ 4294967296) (HL : Aside0 (gap_Found.l0 k a0 p l1 l2 l3 (List.range (p * p)) 0 = some r)) :
  Calls Tryd.prog 26 #[.int .i64 a0, .slice A1 l1.length c1, .slice A2 l2.length c2, .slice A3 l3.length c3] w fun e w' => e = .returned (.tuple #[.int .i64 r, .int .i64 0]) ∧ Below w.heap.size w w' := by
 have h1 : 1 ≤ 20 := by decide
 have HX := ak (Kd.C_alloc (Kd.C_alloc (Kd.C_alloc (Kd.C_alloc HR1.out _) _) _) _ : Kd.C (Kd.slice 48 (Kd.int .u64)) ((((w.alloc (.cells #[.int .i64 a0] 3)).alloc (.cells #[.slice A1 l1.length c1] 42)).alloc (.cells #[.slice A2 l2.length c2] 42)).alloc (.cells #[.slice A3 l3.length c3] 35)) A1 l1.length l1)
 have HY := ak (Kd.C_alloc (Kd.C_alloc (Kd.C_alloc (Kd.C_alloc HR2.out _) _) _) _ : Kd.C (Kd.slice 48 (Kd.int .u64)) ((((w.alloc (.cells #[.int .i64 a0] 3)).alloc (.cells #[.slice A1 l1.length c1] 42)).alloc (.cells #[.slice A2 l2.length c2] 42)).alloc (.cells #[.slice A3 l3.length c3] 35)) A2 l2.length l2)
 have hbf' : ((((w.alloc (.cells #[.int .i64 a0] 3)).alloc (.cells #[.slice A1 l1.length c1] 42)).alloc (.cells #[.slice A2 l2.length c2] 42)).alloc (.cells #[.slice A3 l3.length c3] 35)).heap[w.heap.size]? = some (.cells #[.int .i64 a0] 3 (0, 0)) := blk_alloc (blk_alloc (blk_alloc (World.alloc_heap_new w _) _) _) _
 have hbl' : ((((w.alloc (.cells #[.int .i64 a0] 3)).alloc (.cells #[.slice A1 l1.length c1] 42)).alloc (.cells #[.slice A2 l2.length c2] 42)).alloc (.cells #[.slice A3 l3.length c3] 35)).heap[w.heap.size + 1]? = some (.cells #[.slice A1 l1.length c1] 42 (0, 0)) := blk_alloc (blk_alloc (al_new_ _ _ _ (by simp)) _) _
 have hbr' : ((((w.alloc (.cells #[.int .i64 a0] 3)).alloc (.cells #[.slice A1 l1.length c1] 42)).alloc (.cells #[.slice A2 l2.length c2] 42)).alloc (.cells #[.slice A3 l3.length c3] 35)).heap[w.heap.size + 1 + 1]? = some (.cells #[.slice A2 l2.length c2] 42 (0, 0)) := blk_alloc (al_new_ _ _ _ (by simp)) _
 have hbc' : ((((w.alloc (.cells #[.int .i64 a0] 3)).alloc (.cells #[.slice A1 l1.length c1] 42)).alloc (.cells #[.slice A2 l2.length c2] 42)).alloc (.cells #[.slice A3 l3.length c3] 35)).heap[w.heap.size + 1 + 1 + 1]? = some (.cells #[.slice A3 l3.length c3] 35 (0, 0)) := al_new_ _ _ _ (by simp)
 have hbel' : Below w.heap.size w ((((w.alloc (.cells #[.int .i64 a0] 3)).alloc (.cells #[.slice A1 l1.length c1] 42)).alloc (.cells #[.slice A2 l2.length c2] 42)).alloc (.cells #[.slice A3 l3.length c3] 35)) := below_alloc (below_alloc (below_alloc (below_alloc (Below.refl _ _) _) _) _) _
 have HZ := ak (And.intro hbf' (And.intro hbl' (And.intro hbr' (And.intro hbc' hbel'))))
 clear hbf' hbl' hbr' hbc' hbel'
 refine (callsIn_wide (n := 20)).1 (callsIn_of_wp_marks Tryd.func26 rfl trivial ?_ rfl)
 simp only [Tryd.ntmps26, List.size_toArray, List.length_cons, List.length_nil, Nat.reduceAdd, Nat.reduceSub, Array.replicate_succ, Array.replicate_zero, List.push_toArray, List.append_toArray, List.nil_append, List.cons_append]
 gi_wp2_with (first | (refine ⟨trivial, ?_⟩; gi_at_call 65; refine (callsIn_wide.2 (gap_tuples.calls a0 A1 c1 l1 A2 c2 l2 0 _ HX.out hc1 HY.out hc2 HV.out)).mono ?_; rintro e wt ⟨rfl, hb⟩; have hbf := blk_below HZ.out.1 hb; have hbl := blk_below HZ.out.2.1 hb; have hbr := blk_below HZ.out.2.2.1 hb; have hbc := blk_below HZ.out.2.2.2.1 hb; have HBT := ak (below_step HZ.out.2.2.2.2 hb); have hsz : w.heap.size + 1 + 1 + 1 < wt.heap.size := blk_lt hbc; have HBF := ak hbf; have HBL := ak hbl; have HBR := ak hbr; have HBC := ak hbc; clear hb HX HY HZ hbf hbl hbr hbc; have hcl : wt.cell? ⟨w.heap.size + 1 + 1, 0, none⟩ = some (.slice A2 l2.length c2) := bc0_ HBR.out; have hcr : wt.cell? ⟨w.heap.size + 1 + 1 + 1, 0, none⟩ = some (.slice A3 l3.length c3) := bc0_ HBC.out; have hcf : (wt.alloc (.cells #[.int .i64 0] 3)).cell? ⟨w.heap.size, 0, none⟩ = some (.int .i64 a0) := (blk_cell (blk_alloc HBF.out _) 0).trans rfl) | (refine ⟨trivial, ?_⟩; gi_at_call 66; refine (callsIn_wide.2 (gap_pairs_calls a0 _)).mono ?_; rintro e w' ⟨rfl, rfl⟩))
 clear hcl hcr hcf
 obtain ⟨nb, hnb⟩ : ∃ nb, nb = wt.heap.size := ⟨_, rfl⟩
 obtain ⟨W0, hW0⟩ : ∃ W0, (wt.alloc (.cells #[.int .i64 0] 3)).alloc (.cells #[.int .i64 a0] 3) = W0 := ⟨_, rfl⟩
 have hB0 : Below wt.heap.size wt W0 := by rw [← hW0]; exact below_alloc (below_alloc (Below.refl _ _) _) _
 have hs0 : W0.heap.size = nb + 1 + 1 := by rw [← hW0, hnb]; simp
 have hbn : W0.heap[nb]? = some (.cells #[.int .i64 0] 3 (0, 0)) := by rw [← hW0, hnb]; exact blk_alloc (World.alloc_heap_new wt _) _
 have hbe : W0.heap[nb + 1]? = some (.cells #[.int .i64 a0] 3 (0, 0)) := by rw [← hW0, hnb]; exact al_new_ _ _ _ (by simp)
 have hE0 : FB k a0 p A1 c1 l1 A2 c2 l2 A3 c3 l3 r w nb (List.range (p * p)) 0 W0 := ⟨HL.out, blk_below HBF.out hB0, blk_below HBL.out hB0, blk_below HBR.out hB0, blk_below HBC.out hB0, hbn, below_step HBT.out hB0⟩
 have hnw : w.heap.size + 1 + 1 + 1 < nb := by omega
 have hg1 : 0 < nb := Nat.lt_trans HG.out.lt (by omega)
 have hg2 : 0 < nb := Nat.lt_trans HG.out.lt (by omega)
 rw [hW0, ← hnb]
 clear hW0 hB0 hbn HBF HBL HBR HBC HBT hsz hnb
 refine wpIn_rangeSeqH (F := Fence.wide) (n := 20) rfl h1 (gf := 111) (lb := #[.pointer (some ⟨nb + 1, 0, none⟩)]) rfl trivial (enters_of Tryd.func111 (by kernel_rfl) rfl)
  (xs := prs p) (K := KN nb (W0.heap.size + 2)) (w0 := W0) (gap_pairs_run (20 - 1) (by decide) (nb + 1) nb a0 p HP.out hp32 W0 (Fld.below HG.out hE0.bel) hbe (by omega) (by omega) hg1 hg2) KN.trans (fun W l o o' _ h2 hl hc _ => KN.put o' h2 hl hc) (Below.refl _ _)
  (prs_two p) (fun i W' => ∃ n, FB k a0 p A1 c1 l1 A2 c2 l2 A3 c3 l3 r w nb ((List.range (p * p)).drop i) n W') (FB.own _ (by omega) fun i => (List.range (p * p)).drop i) ⟨0, hE0⟩
  (fun i a' _ => a' = { tmps := #[Value.int IntKind.i64 a0, Value.slice A1 l1.length c1, Value.slice A2 l2.length c2, Value.slice A3 l3.length c3, Value.pointer (some { block := w.heap.size, off := 0 }), Value.pointer (some { block := w.heap.size + 1, off := 0 }), Value.pointer (some { block := w.heap.size + 1 + 1, off := 0 }), Value.pointer (some { block := w.heap.size + 1 + 1 + 1, off := 0 }), Value.int IntKind.i64 0, Value.int IntKind.i64 0, Value.int IntKind.i64 0, Value.pointer (some { block := nb, off := 0 }), Value.int IntKind.u64 ↑(i / p), Value.int IntKind.u64 ↑(i % p), undef, undef, Value.int IntKind.i64 a0, Value.slice A1 l1.length c1, Value.slice A2 l2.length c2, Value.int IntKind.i64 0, Value.bool false, Value.slice A2 l2.length c2, Value.int IntKind.i64 ↑l2.length, Value.slice A3 l3.length c3, Value.int IntKind.i64 ↑l3.length, Value.bool false, Value.bool false, Value.int IntKind.i64 0, Value.bool false, undef, Value.int IntKind.i64 a0, Value.func (Fn.func 111) #[] #[Value.pointer (some { block := nb + 1, off := 0 })], Value.int IntKind.u64 ↑(i / p), Value.int IntKind.u64 ↑(i % p), undef, undef, undef, undef, undef, undef, undef, undef, undef, undef, undef, undef, undef, undef, undef, undef, undef, undef, undef, undef, undef, undef, undef, undef, undef, undef, undef, undef, undef, undef, undef, undef, undef, undef, undef], defers := [] })
  (fun _ _ _ _ _ _ h _ _ => h) ?assign ?body ?done
 case assign =>
  intro l i hi W1 K' hI hK'
  obtain ⟨x, hx⟩ : ∃ x, x = ((i / p : Nat) : Int) := ⟨_, rfl⟩
  obtain ⟨y, hy⟩ : ∃ y, y = ((i % p : Nat) : Int) := ⟨_, rfl⟩
  rw [prs_at, ← hx, ← hy]
  have HXY := ak (And.intro hx hy)
  clear hx hy
  simp only [List.zip_toArray, List.zip_cons_cons, List.zip_nil_right, List.foldl_toArray, List.foldl_cons, List.foldl_nil, List.setIfInBounds_toArray, List.set_cons_zero, List.set_cons_succ]
  gi_wp2
  exact hK' _ _ (KeepsFrom.refl _ _) ⟨KC.refl _ _, KeepsFrom.refl _ _⟩ hI (by rw [HXY.out.1, HXY.out.2])
 case body =>
  rintro l i a' W1 hi hl _ ⟨n, hB⟩ rfl
  have hip : i < p * p := by rw [prs_length] at hi; exact hi
  have HS0 := ak hs0
  clear hs0
  have on := hB.on
  rw [pr_drop _ _ hip, gap_Found.l0] at on
  generalize ((i / p : Nat) : Int) = x at on ⊢
  generalize ((i % p : Nat) : Int) = y at on ⊢
  obtain ⟨t1, h1', on⟩ := Option.bind_eq_some_iff.1 on
  obtain ⟨t2, h2', on⟩ := Option.bind_eq_some_iff.1 on
  obtain ⟨t3, h3', on⟩ := Option.bind_eq_some_iff.1 on
  have HE := ak hB
  have H1 := ak h1'
  have H2 := ak h2'
  have H3 := ak h3'
  have HON := ak on
  have HK := ak (KC.refl nb W1)
  have HF := ak (KeepsFrom.refl W0.heap.size W1)
  clear hB h1' h2' h3' on hi
  refine wpIn_block ?_
  refine wpIn_seq ?_
  have HE2 := ak (HE.out.below (below_drew1 (Below.refl _ _)))
  have HK2 := ak (HK.out.trans (KC.of_below (below_drew1 (Below.refl _ _))) : KC nb W1 W1.drew)
  have HF2 := ak (keepsFrom_of_below HF.out (below_drew1 (Below.refl W1.heap.size W1)))
  clear HE HK HF
  have HE := HE2
  have HK := HK2
  have HF := HF2
  clear HE2 HK2 HF2
  refine startIn_ (n := 12) (by simp [noDefer]) (fun ⟨_, _, h⟩ => h) (S := fun w' => w'.cell? ⟨w.heap.size, 0, none⟩ = some (.int .i64 a0) ∧ w'.cell? ⟨w.heap.size + 1, 0, none⟩ = some (.slice A1 l1.length c1) ∧ w'.cell? ⟨w.heap.size + 1 + 1, 0, none⟩ = some (.slice A2 l2.length c2)) (ds := []) (bv 12 0) (by kernel_rfl) rfl rfl ⟨(blk_cell HE.out.bf 0).trans rfl, (blk_cell HE.out.bl 0).trans rfl, (blk_cell HE.out.br 0).trans rfl⟩ (fun hHeld => ?_)
  have HT_ : Aside0 (rtab .any (opsOf Tryd.f26 10) = rtab .any (opsOf Tryd.f26 10)) := ⟨rfl⟩
  generalize W1.drew = w5 at HE HK HF hHeld ⊢
  refine take_ (i := 0) (N := some 34) (v := ?_) (a' := ?_) (bv 12 1) rfl rfl (take_of HT_.out (by kernel_rfl)) (fun _ _ _ h => h) (Or.inl ⟨by rfl, ?_⟩) hHeld ?_ ?_
  rotate_left
  ·rintro w' ⟨s0, s1, s2⟩
   go_simp
   with_reducible rfl
  rotate_left
  ·simp only [Act.put, s1_, s2_, s3_, i64_w, i32_w]
   rfl
  refine take_ (i := 1) (N := some 35) (v := ?_) (a' := ?_) (bv 12 3) rfl rfl (take_of HT_.out (by kernel_rfl)) (fun _ _ _ h => h) (Or.inl ⟨by rfl, ?_⟩) hHeld ?_ ?_
  rotate_left
  ·rintro w' ⟨s0, s1, s2⟩
   go_simp
   with_reducible rfl
  rotate_left
  ·simp only [Act.put, s1_, s2_, s3_, i64_w, i32_w]
   rfl
  refine pq_ 2 36 12 7 HT_.out ?_
  refine pq_ 3 37 12 15 HT_.out ?_
  refine take_ (i := 5) (N := some 39) (v := ?_) (a' := ?_) (bv 12 47) rfl rfl (take_of HT_.out (by kernel_rfl)) (fun _ _ _ h => h) (Or.inl ⟨by rfl, ?_⟩) hHeld ?_ ?_
  rotate_left
  ·rintro w' ⟨s0, s1, s2⟩
   go_simp
   with_reducible rfl
  rotate_left
  ·simp only [Act.put, s1_, s2_, s3_, i64_w, i32_w]
   rfl
  refine take_ (i := 6) (N := some 40) (v := ?_) (a' := ?_) (bv 12 111) rfl rfl (take_of HT_.out (by kernel_rfl)) (fun _ _ _ h => h) (Or.inl ⟨by rfl, ?_⟩) hHeld ?_ ?_
  rotate_left
  ·rintro w' ⟨s0, s1, s2⟩
   go_simp
   with_reducible rfl
  rotate_left
  ·simp only [Act.put, s1_, s2_, s3_, i64_w, i32_w]
   rfl
  refine pq_ 7 41 12 239 HT_.out ?_
  refine pq_ 8 42 12 495 HT_.out ?_
  refine oq_ 4 38 12 511 HT_.out fun K hK => ?_
  refine gs_ Tryd.func68 #[.int .i64 a0, .slice A1 l1.length c1, .int .u64 x, .int .u64 y] ?_
  refine (gap_values.calls k a0 A1 c1 l1 x y t1 _ (Fld.below HG.out HE.out.bel) (C_below HR1.out HE.out.bel) hc1 H1.out).mono ?_
  rintro e w6 ⟨v1_, rfl, hrow, hb⟩
  refine ⟨_, rfl, ?_⟩
  obtain ⟨Au, cu, eu⟩ := R_slice hrow
  subst eu
  have HCu := ak (R_reads' hrow).2
  have HE2 := ak (HE.out.below hb)
  have HK2 := ak (HK.out.trans (KC.of_below hb) : KC nb W1 w6)
  have HF2 := ak (keepsFrom_of_below HF.out hb)
  clear HE HK HF hb hrow
  have HE := HE2
  have HK := HK2
  have HF := HF2
  clear HE2 HK2 HF2
  refine hK.out _ _ ⟨(blk_cell HE.out.bf 0).trans rfl, (blk_cell HE.out.bl 0).trans rfl, (blk_cell HE.out.br 0).trans rfl⟩ (fun hHeld => ?_)
  clear hK K
  refine norm_ (a' := ?_) ?_ ?_
  rotate_left
  ·show Act.put _ (some 38) _ = _
   simp only [Act.put, s1_, s2_, s3_, i64_w, i32_w]
   rfl
  refine oq_ 9 43 12 1023 HT_.out fun K hK => ?_
  refine gs_ Tryd.func68 #[.int .i64 a0, .slice A2 l2.length c2, .int .u64 x, .int .u64 y] ?_
  refine (gap_values.calls k a0 A2 c2 l2 x y t2 _ (Fld.below HG.out HE.out.bel) (C_below HR2.out HE.out.bel) hc2 H2.out).mono ?_
  rintro e w6 ⟨v1_, rfl, hrow, hb⟩
  refine ⟨_, rfl, ?_⟩
  obtain ⟨Av, cv, ev⟩ := R_slice hrow
  subst ev
  have HCv := ak (R_reads' hrow).2
  have HE2 := ak (HE.out.below hb)
  have HK2 := ak (HK.out.trans (KC.of_below hb) : KC nb W1 w6)
  have HF2 := ak (keepsFrom_of_below HF.out hb)
  have HCu_ := ak (⟨HCu.out.1, C_below HCu.out.2 hb⟩ : _ ∧ _)
  clear HE HK HF hb HCu hrow
  have HE := HE2
  have HK := HK2
  have HF := HF2
  clear HE2 HK2 HF2
  have HCu := HCu_
  clear HCu_
  refine hK.out _ _ ⟨(blk_cell HE.out.bf 0).trans rfl, (blk_cell HE.out.bl 0).trans rfl, (blk_cell HE.out.br 0).trans rfl⟩ (fun hHeld => ?_)
  clear hK K
  refine norm_ (a' := ?_) ?_ ?_
  rotate_left
  ·show Act.put _ (some 43) _ = _
   simp only [Act.put, s1_, s2_, s3_, i64_w, i32_w]
   rfl
  refine pq_ 10 14 12 2047 HT_.out ?_
  refine pq_ 11 15 12 4095 HT_.out ?_
  refine done_ (done_of HT_.out (by kernel_rfl)) ?_
  clear HT_ hHeld
  show Code.wpIn _ _ _ _ _ _ _
  refine wpIn_seq ?_
  refine wpIn_seq ?_
  refine regIn_list (by simp [noDefer]) (fun ⟨_, _, h⟩ => h) ?_
  have hcf : w6.cell? ⟨w.heap.size, 0, none⟩ = some (.int .i64 a0) := (blk_cell HE.out.bf 0).trans rfl
  by_cases z3 : t3 = 0
  ·subst z3
   have on := HON.out
   rw [if_pos rfl] at on
   go_wp2_with (go_at_call 67; refine (gap_product.calls k a0 Au cu t1 0 _ (Fld.below HG.out HE.out.bel) HCu.out.2 HCu.out.1 H3.out).mono ?_; rintro e w7 ⟨rfl, hb⟩; have HE7 := ak (HE.out.below hb); have HK7 := ak (HK.out.trans (KC.of_below hb) : KC nb W1 w7); have HF7 := ak (keepsFrom_of_below HF.out hb); clear hb)
   show Code.wpIn _ _ _ _ _ _ _
   refine wpIn_cond_true rfl (wpIn_exit (exit_then_ ?_))
   exact ⟨HF7.out, ⟨HK7.out, keepsFrom_mono HF7.out (by have := HS0.out; omega)⟩, n, HE7.out.to on⟩
  have on := HON.out
  rw [if_neg z3] at on
  obtain ⟨t4, h4', on⟩ := Option.bind_eq_some_iff.1 on
  have H4 := ak h4'
  have HON4 := ak on
  clear on h4' HON
  have z3' : (t3 == 0) = false := beq_eq_false_iff_ne.2 z3
  clear z3
  by_cases z4 : t4 = 0
  ·subst z4
   have on := HON4.out
   rw [if_pos rfl] at on
   go_wp2_with (first | (go_at_call 67; refine (gap_product.calls k a0 Au cu t1 t3 _ (Fld.below HG.out HE.out.bel) HCu.out.2 HCu.out.1 H3.out).mono ?_; clear H3; rintro e w7 ⟨rfl, hb⟩; have HE7 := ak (HE.out.below hb); have HK7 := ak (HK.out.trans (KC.of_below hb) : KC nb W1 w7); have HF7 := ak (keepsFrom_of_below HF.out hb); have HCv7 := ak (⟨HCv.out.1, C_below HCv.out.2 hb⟩ : _ ∧ _); clear hb; have hcf7 : w7.cell? ⟨w.heap.size, 0, none⟩ = some (.int .i64 a0) := (blk_cell HE7.out.bf 0).trans rfl) | (go_at_call 67; refine (gap_product.calls k a0 Av cv t2 0 _ (Fld.below HG.out HE7.out.bel) HCv7.out.2 HCv7.out.1 H4.out).mono ?_; rintro e w8 ⟨rfl, hb⟩; have HE8 := ak (HE7.out.below hb); have HK8 := ak (HK7.out.trans (KC.of_below hb) : KC nb W1 w8); have HF8 := ak (keepsFrom_of_below HF7.out hb); clear hb))
   show Code.wpIn _ _ _ _ _ _ _
   refine wpIn_cond_true rfl (wpIn_exit (exit_then_ ?_))
   exact ⟨HF8.out, ⟨HK8.out, keepsFrom_mono HF8.out (by have := HS0.out; omega)⟩, n, HE8.out.to on⟩
  have on := HON4.out
  rw [if_neg z4] at on
  obtain ⟨t5, h5', on⟩ := Option.bind_eq_some_iff.1 on
  obtain ⟨t6, h6', on⟩ := Option.bind_eq_some_iff.1 on
  obtain ⟨t7, h7', on⟩ := Option.bind_eq_some_iff.1 on
  obtain ⟨t8, h8', on⟩ := Option.bind_eq_some_iff.1 on
  have H5 := ak h5'
  have H6 := ak h6'
  have H7 := ak h7'
  have H8 := ak h8'
  have HON := ak on
  clear on h5' h6' h7' h8' HON4
  have z4' : (t4 == 0) = false := beq_eq_false_iff_ne.2 z4
  clear z4
  go_wp2_with (first | (go_at_call 67; refine (gap_product.calls k a0 Au cu t1 t3 _ (Fld.below HG.out HE.out.bel) HCu.out.2 HCu.out.1 H3.out).mono ?_; clear H3; rintro e w7 ⟨rfl, hb⟩; have HE7 := ak (HE.out.below hb); have HK7 := ak (HK.out.trans (KC.of_below hb) : KC nb W1 w7); have HF7 := ak (keepsFrom_of_below HF.out hb); have HCv7 := ak (⟨HCv.out.1, C_below HCv.out.2 hb⟩ : _ ∧ _); have HCu7 := ak (⟨HCu.out.1, C_below HCu.out.2 hb⟩ : _ ∧ _); clear hb; have hcf7 : w7.cell? ⟨w.heap.size, 0, none⟩ = some (.int .i64 a0) := (blk_cell HE7.out.bf 0).trans rfl) | (go_at_call 67; refine (gap_product.calls k a0 Av cv t2 t4 _ (Fld.below HG.out HE7.out.bel) HCv7.out.2 HCv7.out.1 H4.out).mono ?_; clear H4; rintro e w8 ⟨rfl, hb⟩; have HE8 := ak (HE7.out.below hb); have HK8 := ak (HK7.out.trans (KC.of_below hb) : KC nb W1 w8); have HF8 := ak (keepsFrom_of_below HF7.out hb); have HCv8 := ak (⟨HCv7.out.1, C_below HCv7.out.2 hb⟩ : _ ∧ _); have HCu8 := ak (⟨HCu7.out.1, C_below HCu7.out.2 hb⟩ : _ ∧ _); clear hb))
  show Code.wpIn _ _ _ _ _ _ _
  refine wpIn_cond_false rfl (wpIn_skip ?_)
  show Code.wpIn _ _ _ _ _ _ _
  refine wpIn_seq ?_
  clear HE HK HF HCu HCv HE7 HK7 HF7 HCu7 HCv7 hcf hcf7
  have HE2 := ak (HE8.out.below (below_drew1 (Below.refl _ _)))
  have HK2 := ak (HK8.out.trans (KC.of_below (below_drew1 (Below.refl _ _))) : KC nb W1 w8.drew)
  have HF2 := ak (keepsFrom_of_below HF8.out (below_drew1 (Below.refl w8.heap.size w8)))
  have HCu := ak (⟨HCu8.out.1, C_below HCu8.out.2 (below_drew1 (Below.refl _ _))⟩ : _ ∧ Kd.C (Kd.int .u64) w8.drew Au t1.length t1)
  have HCv := ak (⟨HCv8.out.1, C_below HCv8.out.2 (below_drew1 (Below.refl _ _))⟩ : _ ∧ Kd.C (Kd.int .u64) w8.drew Av t2.length t2)
  clear HE8 HK8 HF8 HCu8 HCv8
  have HE := HE2
  have HK := HK2
  have HF := HF2
  clear HE2 HK2 HF2
  refine startIn_ (n := 12) (by simp [noDefer]) (fun ⟨_, _, h⟩ => h) (S := fun w' => w'.cell? ⟨w.heap.size, 0, none⟩ = some (.int .i64 a0) ∧ w'.cell? ⟨w.heap.size + 1 + 1 + 1, 0, none⟩ = some (.slice A3 l3.length c3)) (ds := []) (bv 12 0) (by kernel_rfl) rfl rfl ⟨(blk_cell HE.out.bf 0).trans rfl, (blk_cell HE.out.bc 0).trans rfl⟩ (fun hHeld => ?_)
  have HT_ : Aside0 (rtab .any (opsOf Tryd.f26 12) = rtab .any (opsOf Tryd.f26 12)) := ⟨rfl⟩
  generalize w8.drew = w5 at HE HK HF HCu HCv hHeld ⊢
  refine take_ (i := 0) (N := some 54) (v := ?_) (a' := ?_) (bv 12 1) rfl rfl (take_of HT_.out (by kernel_rfl)) (fun _ _ _ h => h) (Or.inl ⟨by rfl, ?_⟩) hHeld ?_ ?_
  rotate_left
  ·rintro w' ⟨s0, s1⟩
   go_simp
   with_reducible rfl
  rotate_left
  ·simp only [Act.put, s1_, s2_, s3_, i64_w, i32_w]
   rfl
  refine take_ (i := 1) (N := some 55) (v := ?_) (a' := ?_) (bv 12 3) rfl rfl (take_of HT_.out (by kernel_rfl)) (fun _ _ _ h => h) (Or.inl ⟨by rfl, ?_⟩) hHeld ?_ ?_
  rotate_left
  ·rintro w' ⟨s0, s1⟩
   go_simp
   with_reducible rfl
  rotate_left
  ·simp only [Act.put, s1_, s2_, s3_, i64_w, i32_w]
   rfl
  refine pq_ 2 56 12 7 HT_.out ?_
  refine take_ (i := 5) (N := some 59) (v := ?_) (a' := ?_) (bv 12 39) rfl rfl (take_of HT_.out (by kernel_rfl)) (fun _ _ _ h => h) (Or.inl ⟨by rfl, ?_⟩) hHeld ?_ ?_
  rotate_left
  ·rintro w' ⟨s0, s1⟩
   go_simp
   with_reducible rfl
  rotate_left
  ·simp only [Act.put, s1_, s2_, s3_, i64_w, i32_w]
   rfl
  refine take_ (i := 6) (N := some 60) (v := ?_) (a' := ?_) (bv 12 103) rfl rfl (take_of HT_.out (by kernel_rfl)) (fun _ _ _ h => h) (Or.inl ⟨by rfl, ?_⟩) hHeld ?_ ?_
  rotate_left
  ·rintro w' ⟨s0, s1⟩
   go_simp
   with_reducible rfl
  rotate_left
  ·simp only [Act.put, s1_, s2_, s3_, i64_w, i32_w]
   rfl
  refine take_ (i := 7) (N := some 61) (v := ?_) (a' := ?_) (bv 12 231) rfl rfl (take_of HT_.out (by kernel_rfl)) (fun _ _ _ h => h) (Or.inl ⟨by rfl, ?_⟩) hHeld ?_ ?_
  rotate_left
  ·rintro w' ⟨s0, s1⟩
   go_simp
   with_reducible rfl
  rotate_left
  ·simp only [Act.put, s1_, s2_, s3_, i64_w, i32_w]
   rfl
  refine pq_ 8 62 12 487 HT_.out ?_
  refine oq_ 3 57 12 495 HT_.out fun K hK => ?_
  refine gs_ Tryd.func70 #[.int .i64 a0, .slice Au t1.length cu] ?_
  refine (field_Inverses.calls k a0 Au cu t1 t5 _ (Fld.below HG.out HE.out.bel) HCu.out.2 HCu.out.1 H5.out).mono ?_
  rintro e w6 ⟨v1_, rfl, hrow, hb⟩
  refine ⟨_, rfl, ?_⟩
  obtain ⟨Ap, cp, ep⟩ := R_slice hrow
  subst ep
  have HCp := ak (R_reads' hrow).2
  have HE2 := ak (HE.out.below hb)
  have HK2 := ak (HK.out.trans (KC.of_below hb) : KC nb W1 w6)
  have HF2 := ak (keepsFrom_of_below HF.out hb)
  have HCv_ := ak (⟨HCv.out.1, C_below HCv.out.2 hb⟩ : _ ∧ _)
  clear HE HK HF hb HCv hrow
  have HE := HE2
  have HK := HK2
  have HF := HF2
  clear HE2 HK2 HF2
  have HCv := HCv_
  clear HCv_
  refine hK.out _ _ ⟨(blk_cell HE.out.bf 0).trans rfl, (blk_cell HE.out.bc 0).trans rfl⟩ (fun hHeld => ?_)
  clear hK K
  refine norm_ (a' := ?_) ?_ ?_
  rotate_left
  ·show Act.put _ (some 57) _ = _
   simp only [Act.put, s1_, s2_, s3_, i64_w, i32_w]
   rfl
  refine oq_ 4 58 12 511 HT_.out fun K hK => ?_
  refine gs_ Tryd.func69 #[.int .i64 a0, .slice Ap t5.length cp] ?_
  refine (field_Sum.calls k a0 Ap cp t5 t6 _ (Fld.below HG.out HE.out.bel) HCp.out.2 HCp.out.1 H6.out).mono ?_
  rintro e w6 ⟨rfl, hb⟩
  refine ⟨_, rfl, ?_⟩
  have HE2 := ak (HE.out.below hb)
  have HK2 := ak (HK.out.trans (KC.of_below hb) : KC nb W1 w6)
  have HF2 := ak (keepsFrom_of_below HF.out hb)
  have HCv_ := ak (⟨HCv.out.1, C_below HCv.out.2 hb⟩ : _ ∧ _)
  clear HE HK HF hb HCv
  have HE := HE2
  have HK := HK2
  have HF := HF2
  clear HE2 HK2 HF2
  have HCv := HCv_
  clear HCv_
  refine hK.out _ _ ⟨(blk_cell HE.out.bf 0).trans rfl, (blk_cell HE.out.bc 0).trans rfl⟩ (fun hHeld => ?_)
  clear hK K
  refine norm_ (a' := ?_) ?_ ?_
  rotate_left
  ·show Act.put _ (some 58) _ = _
   simp only [Act.put, s1_, s2_, s3_, i64_w, i32_w]
   rfl
  refine oq_ 9 63 12 1023 HT_.out fun K hK => ?_
  refine gs_ Tryd.func70 #[.int .i64 a0, .slice Av t2.length cv] ?_
  refine (field_Inverses.calls k a0 Av cv t2 t7 _ (Fld.below HG.out HE.out.bel) HCv.out.2 HCv.out.1 H7.out).mono ?_
  rintro e w6 ⟨v1_, rfl, hrow, hb⟩
  refine ⟨_, rfl, ?_⟩
  obtain ⟨Aq, cq, eq⟩ := R_slice hrow
  subst eq
  have HCq := ak (R_reads' hrow).2
  have HE2 := ak (HE.out.below hb)
  have HK2 := ak (HK.out.trans (KC.of_below hb) : KC nb W1 w6)
  have HF2 := ak (keepsFrom_of_below HF.out hb)
  clear HE HK HF hb hrow
  have HE := HE2
  have HK := HK2
  have HF := HF2
  clear HE2 HK2 HF2
  refine hK.out _ _ ⟨(blk_cell HE.out.bf 0).trans rfl, (blk_cell HE.out.bc 0).trans rfl⟩ (fun hHeld => ?_)
  clear hK K
  refine norm_ (a' := ?_) ?_ ?_
  rotate_left
  ·show Act.put _ (some 63) _ = _
   simp only [Act.put, s1_, s2_, s3_, i64_w, i32_w]
   rfl
  refine oq_ 10 64 12 2047 HT_.out fun K hK => ?_
  refine gs_ Tryd.func71 #[.int .i64 a0, .slice A3 l3.length c3, .slice Aq t7.length cq] ?_
  refine (field_Dot.calls k a0 A3 c3 l3 Aq cq t7 t8 _ (Fld.below HG.out HE.out.bel) (C_below HR3.out HE.out.bel) hc3 HCq.out.2 HCq.out.1 H8.out).mono ?_
  rintro e w6 ⟨rfl, hb⟩
  refine ⟨_, rfl, ?_⟩
  have HE2 := ak (HE.out.below hb)
  have HK2 := ak (HK.out.trans (KC.of_below hb) : KC nb W1 w6)
  have HF2 := ak (keepsFrom_of_below HF.out hb)
  clear HE HK HF hb
  have HE := HE2
  have HK := HK2
  have HF := HF2
  clear HE2 HK2 HF2
  refine hK.out _ _ ⟨(blk_cell HE.out.bf 0).trans rfl, (blk_cell HE.out.bc 0).trans rfl⟩ (fun hHeld => ?_)
  clear hK K
  refine norm_ (a' := ?_) ?_ ?_
  rotate_left
  ·show Act.put _ (some 64) _ = _
   simp only [Act.put, s1_, s2_, s3_, i64_w, i32_w]
   rfl
  refine pq_ 11 65 12 4095 HT_.out ?_
  refine done_ (done_of HT_.out (by kernel_rfl)) ?_
  show Code.wpIn _ _ _ _ _ _ _
  by_cases h0 : t6 = t8
  ·have hd : (t6 == t8) = true := beq_iff_eq.2 h0
   have on := HON.out
   rw [if_pos h0] at on
   have hcn : w6.cell? ⟨nb, 0, none⟩ = some (.int .i64 n) := (blk_cell HE.out.bn 0).trans rfl
   have hfn := bkf9_ HE.out.bn 0
   clear h0
   gi_wp2
   exact ⟨keepsFrom_setAny HF.out HE.out.bn 0 _, ⟨HK.out.set _, keepsFrom_setAny (keepsFrom_mono HF.out (by have := HS0.out; omega)) HE.out.bn 0 _⟩, wrap64 (n + 1), HE.out.put _ on hnw⟩
  have hd : (t6 == t8) = false := beq_eq_false_iff_ne.2 h0
  have on := HON.out
  rw [if_neg h0] at on
  clear h0
  gi_wp2
  exact ⟨HF.out, ⟨HK.out, keepsFrom_mono HF.out (by have := HS0.out; omega)⟩, n, HE.out.to on⟩
 case done =>
  rintro D W1 hD ⟨n, hB⟩ hK
  have on := hB.on
  rw [prs_length, List.drop_of_length_le (by simp)] at on
  obtain rfl : n = r := Option.some.inj on
  have hcn : W1.cell? ⟨nb, 0, none⟩ = some (.int .i64 n) := (blk_cell hB.bn 0).trans rfl
  gi_wp2
  refine ⟨by simp, .inl ⟨_, _, rfl, run_takeDeferred hK, ?_⟩⟩
  refine ⟨_, results_tmp2 rfl _ _ _, rfl, ?_⟩
  exact hB.bel.grown (grownBy_putObj' W1 D _) hB.bel.size (fun b e => by cases e; omega)
set_option maxRecDepth 100000 in
set_option maxHeartbeats 4000000 in
theorem gap_Found.calls (k : Nat) (a0 : Int) (A1 : Option Addr) (c1 : Nat) (l1 : List (List Int)) (A2 : Option Addr) (c2 : Nat) (l2 : List (List Int)) (A3 : Option Addr) (c3 : Nat) (l3 : List Int) (r1 : Int) (r2 : Int) (w : World) (hG : Fld w) (hr1 : Kd.C (Kd.slice 48 (Kd.int .u64)) w A1 l1.length l1) (hc1 : l1.length ≤ c1) (hr2 : Kd.C (Kd.slice 48 (Kd.int .u64)) w A2 l2.length l2) (hc2 : l2.length ≤ c2) (hr3 : Kd.C (Kd.int .u64) w A3 l3.length l3) (hc3 : l3.length ≤ c3) (h : gap_Found.f k a0 l1 l2 l3 = some (r1, r2)) :
  Calls Tryd.prog 26 #[.int .i64 a0, .slice A1 l1.length c1, .slice A2 l2.length c2, .slice A3 l3.length c3] w fun e w' => e = .returned (.tuple #[.int .i64 r1, .int .i64 r2]) ∧ Below w.heap.size w w' := by
 have HG := ak hG
 have HR1 := ak hr1
 have HR2 := ak hr2
 have HR3 := ak hr3
 clear hG hr1 hr2 hr3
 unfold gap_Found.f at h
 obtain ⟨e, he, h⟩ := Option.bind_eq_some_iff.1 h
 have HV := ak he
 clear he
 cases q1 : ((l2.length : Int) != (l3.length : Int)) with
 | true =>
  rw [q1, if_pos rfl] at h
  simp only [Option.some.injEq, Prod.mk.injEq] at h
  obtain ⟨rfl, rfl⟩ := h
  have HX := ak (Kd.C_alloc (Kd.C_alloc (Kd.C_alloc (Kd.C_alloc HR1.out _) _) _) _ : Kd.C (Kd.slice 48 (Kd.int .u64)) ((((w.alloc (.cells #[.int .i64 a0] 3)).alloc (.cells #[.slice A1 l1.length c1] 42)).alloc (.cells #[.slice A2 l2.length c2] 42)).alloc (.cells #[.slice A3 l3.length c3] 35)) A1 l1.length l1)
  have HY := ak (Kd.C_alloc (Kd.C_alloc (Kd.C_alloc (Kd.C_alloc HR2.out _) _) _) _ : Kd.C (Kd.slice 48 (Kd.int .u64)) ((((w.alloc (.cells #[.int .i64 a0] 3)).alloc (.cells #[.slice A1 l1.length c1] 42)).alloc (.cells #[.slice A2 l2.length c2] 42)).alloc (.cells #[.slice A3 l3.length c3] 35)) A2 l2.length l2)
  have HZ := ak (below_alloc (below_alloc (below_alloc (below_alloc (Below.refl _ _) _) _) _) _ : Below w.heap.size w ((((w.alloc (.cells #[.int .i64 a0] 3)).alloc (.cells #[.slice A1 l1.length c1] 42)).alloc (.cells #[.slice A2 l2.length c2] 42)).alloc (.cells #[.slice A3 l3.length c3] 35)))
  have HQ := ak (show ((((w.alloc (.cells #[.int .i64 a0] 3)).alloc (.cells #[.slice A1 l1.length c1] 42)).alloc (.cells #[.slice A2 l2.length c2] 42)).alloc (.cells #[.slice A3 l3.length c3] 35)).heap[w.heap.size + 1 + 1]? = some (.cells #[.slice A2 l2.length c2] 42 (0, 0)) ∧ ((((w.alloc (.cells #[.int .i64 a0] 3)).alloc (.cells #[.slice A1 l1.length c1] 42)).alloc (.cells #[.slice A2 l2.length c2] 42)).alloc (.cells #[.slice A3 l3.length c3] 35)).heap[w.heap.size + 1 + 1 + 1]? = some (.cells #[.slice A3 l3.length c3] 35 (0, 0)) from ⟨blk_alloc (al_new_ _ _ _ (by simp)) _, al_new_ _ _ _ (by simp)⟩)
  go_enter Tryd.func26, Tryd.ntmps26
  go_wp2_with (go_at_call 65; refine (gap_tuples.calls a0 A1 c1 l1 A2 c2 l2 e _ HX.out hc1 HY.out hc2 HV.out).mono ?_; rintro e wt ⟨rfl, hb⟩; have HBT := ak (below_step HZ.out hb); have hq2 : wt.cell? ⟨w.heap.size + 1 + 1, 0, none⟩ = some (.slice A2 l2.length c2) := (blk_cell (blk_below HQ.out.1 hb) 0).trans rfl; have hq3 : wt.cell? ⟨w.heap.size + 1 + 1 + 1, 0, none⟩ = some (.slice A3 l3.length c3) := (blk_cell (blk_below HQ.out.2 hb) 0).trans rfl; clear hb HX HY HZ HQ)
  go_ret2
  exact ⟨rfl, HBT.out⟩
 | false =>
  rw [q1, if_neg (by decide)] at h
  cases q2 : (e != 0) with
  | true =>
   rw [q2, if_pos rfl] at h
   simp only [Option.some.injEq, Prod.mk.injEq] at h
   obtain ⟨rfl, rfl⟩ := h
   have HX := ak (Kd.C_alloc (Kd.C_alloc (Kd.C_alloc (Kd.C_alloc HR1.out _) _) _) _ : Kd.C (Kd.slice 48 (Kd.int .u64)) ((((w.alloc (.cells #[.int .i64 a0] 3)).alloc (.cells #[.slice A1 l1.length c1] 42)).alloc (.cells #[.slice A2 l2.length c2] 42)).alloc (.cells #[.slice A3 l3.length c3] 35)) A1 l1.length l1)
   have HY := ak (Kd.C_alloc (Kd.C_alloc (Kd.C_alloc (Kd.C_alloc HR2.out _) _) _) _ : Kd.C (Kd.slice 48 (Kd.int .u64)) ((((w.alloc (.cells #[.int .i64 a0] 3)).alloc (.cells #[.slice A1 l1.length c1] 42)).alloc (.cells #[.slice A2 l2.length c2] 42)).alloc (.cells #[.slice A3 l3.length c3] 35)) A2 l2.length l2)
   have HZ := ak (below_alloc (below_alloc (below_alloc (below_alloc (Below.refl _ _) _) _) _) _ : Below w.heap.size w ((((w.alloc (.cells #[.int .i64 a0] 3)).alloc (.cells #[.slice A1 l1.length c1] 42)).alloc (.cells #[.slice A2 l2.length c2] 42)).alloc (.cells #[.slice A3 l3.length c3] 35)))
   have HQ := ak (show ((((w.alloc (.cells #[.int .i64 a0] 3)).alloc (.cells #[.slice A1 l1.length c1] 42)).alloc (.cells #[.slice A2 l2.length c2] 42)).alloc (.cells #[.slice A3 l3.length c3] 35)).heap[w.heap.size + 1 + 1]? = some (.cells #[.slice A2 l2.length c2] 42 (0, 0)) ∧ ((((w.alloc (.cells #[.int .i64 a0] 3)).alloc (.cells #[.slice A1 l1.length c1] 42)).alloc (.cells #[.slice A2 l2.length c2] 42)).alloc (.cells #[.slice A3 l3.length c3] 35)).heap[w.heap.size + 1 + 1 + 1]? = some (.cells #[.slice A3 l3.length c3] 35 (0, 0)) from ⟨blk_alloc (al_new_ _ _ _ (by simp)) _, al_new_ _ _ _ (by simp)⟩)
   go_enter Tryd.func26, Tryd.ntmps26
   go_wp2_with (go_at_call 65; refine (gap_tuples.calls a0 A1 c1 l1 A2 c2 l2 e _ HX.out hc1 HY.out hc2 HV.out).mono ?_; rintro e wt ⟨rfl, hb⟩; have HBT := ak (below_step HZ.out hb); have hq2 : wt.cell? ⟨w.heap.size + 1 + 1, 0, none⟩ = some (.slice A2 l2.length c2) := (blk_cell (blk_below HQ.out.1 hb) 0).trans rfl; have hq3 : wt.cell? ⟨w.heap.size + 1 + 1 + 1, 0, none⟩ = some (.slice A3 l3.length c3) := (blk_cell (blk_below HQ.out.2 hb) 0).trans rfl; clear hb HX HY HZ HQ)
   go_ret2
   exact ⟨rfl, HBT.out⟩
  | false =>
   rw [q2, if_neg (by decide)] at h
   obtain rfl : e = 0 := by simpa using q2
   obtain ⟨P, hP, h⟩ := Option.bind_eq_some_iff.1 h
   obtain ⟨n, hn, h⟩ := Option.bind_eq_some_iff.1 h
   simp only [Option.some.injEq, Prod.mk.injEq] at h
   obtain ⟨rfl, rfl⟩ := h
   have hp0 := P_range hP
   have ep : ((P.toNat : Nat) : Int) = P := Int.toNat_of_nonneg hp0.1
   exact gap_Found_main k a0 A1 c1 l1 A2 c2 l2 A3 c3 l3 n w HG HR1 hc1 HR2 hc2 HR3 hc3 HV q1 P.toNat ⟨by rw [ep]; exact hP⟩ (by omega) ⟨hn⟩
end

end Go.Proofs.YtbjeemlbjkmhiaaDoor.Q

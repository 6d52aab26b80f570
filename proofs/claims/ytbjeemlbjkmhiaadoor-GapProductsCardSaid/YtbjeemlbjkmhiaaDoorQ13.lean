import Derived.Test.YtbjeemlbjkmhiaaDoorQ0
import Derived.Test.YtbjeemlbjkmhiaaDoorQ3
import Derived.Test.YtbjeemlbjkmhiaaDoorQ4
import Derived.Test.YtbjeemlbjkmhiaaDoorQ10
import Derived.Test.YtbjeemlbjkmhiaaDoorQ12
namespace Go.Proofs.YtbjeemlbjkmhiaaDoor.Q
open Go.RowKit Go.Proofs.YtbjeemlbjkmhiaaDoorW.PrintWords Go.Proofs.YtbjeemlbjkmhiaaDoorW.PrintLast Go.Proofs.YtbjeemlbjkmhiaaDoorW.PrintMore
open Kd (V_below V_mono V_lower V_elderB V_slice V_reads' V_mk C_below fresh' V_drew)
attribute [local go_sem] max2_int min2_int max_two min_two max_three min_three max_four min_four   -- for this text's walks alone
set_option linter.unusedVariables false
set_option linter.unusedSimpArgs false

mutual
def attestorlaw11_GapProducts.j1 : Nat → Int → Int → List (List Int) → List (List Int) → Option (Bool)
 | 0, _, _, _, _ => none
 | k + 1, x11, x12, x13, x14 => attestorlaw11_GapProducts.l1 k x11 x12 x13 x14 true 0
def attestorlaw11_GapProducts.l1 : Nat → Int → Int → List (List Int) → List (List Int) → Bool → Int → Option (Bool)
 | 0, _, _, _, _, _, _ => none
 | k + 1, x11, x12, x13, x14, x16, x17 => if x17 < x11 then (if x16 = true then (if 0 ≤ x17 then (if x17 < (x13.length : Int) then ((attestorlaw11_often.f k (rd_L3 x13 x17) x13).bind fun t922 => ((attestorlaw11_often.f k (rd_L3 x13 x17) x14).bind fun t924 => (attestorlaw11_GapProducts.l1 k x11 x12 x13 x14 (t922 == t924) (wrap64 (x17 + 1))))) else (none)) else (none)) else (attestorlaw11_GapProducts.l1 k x11 x12 x13 x14 false (wrap64 (x17 + 1)))) else ((gap_Equal.f k 0 x13 x14).bind fun bt925 => (if bt925.2 = 0 then (attestorlaw11_GapProducts.j3 k x11 x12 x16 bt925.1) else (none)))
def attestorlaw11_GapProducts.j3 : Nat → Int → Int → Bool → Int → Option (Bool)
 | 0, _, _, _, _ => none
 | k + 1, x11, x12, x16, x18 => if x16 = true then (if x18 = 9409 then ((attestorlaw11_works.f k).bind fun t927 => (some t927)) else (none)) else ((gap_EqualBound.f k 0 x11 x12).bind fun bt928 => ((attestorlaw11_part.f k x18 9409 bt928.1 bt928.2.1 bt928.2.2).bind fun t936 => (if t936 = true then ((attestorlaw11_works.f k).bind fun t937 => (some t937)) else (none))))
def attestorlaw11_GapProducts.l0 : Nat → Int → Int → List (List Int) → List (List Int) → Int → Option (Bool)
 | 0, _, _, _, _, _ => none
 | k + 1, x11, x12, x13, x14, x15 => if x15 < x11 then (if x11 = 0 then (none) else (if 0 ≤ (Int.tmod (wrap64 (x15 + 1)) x11) then (if (Int.tmod (wrap64 (x15 + 1)) x11) < (x13.length : Int) then (if x14.length < 5864062014805 then (attestorlaw11_GapProducts.l0 k x11 x12 x13 (x14 ++ [rd_L3 x13 (Int.tmod (wrap64 (x15 + 1)) x11)]) (wrap64 (x15 + 1))) else (none)) else (none)) else (none))) else (attestorlaw11_GapProducts.j1 k x11 x12 x13 x14)
end
def attestorlaw11_GapProducts.f (k : Nat) (a0 : Int) (a1 : Int) (l2 : List (List Int)) (l3 : List (List Int)) (a4 : Bool) : Option (Bool) := (attestorlaw11_list.f k l2 (wrap64 (1 + (wrap64 (Int.tmod a0 5)))) (wrap64 (1 + (wrap64 (Int.tmod a1 3))))).bind fun t911 => ((attestorlaw11_list.f k l3 (wrap64 (1 + (wrap64 (Int.tmod a0 5)))) (wrap64 (1 + (wrap64 (Int.tmod a1 3))))).bind fun t914 => (if a4 = true then (attestorlaw11_GapProducts.l0 k (wrap64 (1 + (wrap64 (Int.tmod a0 5)))) (wrap64 (1 + (wrap64 (Int.tmod a1 3)))) t911 ([] : List (List Int)) 0) else (attestorlaw11_GapProducts.j1 k (wrap64 (1 + (wrap64 (Int.tmod a0 5)))) (wrap64 (1 + (wrap64 (Int.tmod a1 3)))) t911 t914)))
set_option maxHeartbeats 8000000 in
set_option maxRecDepth 100000 in
theorem attestorlaw11_GapProducts.calls (k : Nat) (a0 : Int) (a1 : Int) (A2 : Option Addr) (c2 : Nat) (l2 : List (List Int)) (A3 : Option Addr) (c3 : Nat) (l3 : List (List Int)) (a4 : Bool) (r : Bool) (w : World) (hG : Fld w) (hr2 : Kd.C (Kd.slice 48 (Kd.int .u64)) w A2 l2.length l2) (hc2 : l2.length ≤ c2) (hr3 : Kd.C (Kd.slice 48 (Kd.int .u64)) w A3 l3.length l3) (hc3 : l3.length ≤ c3) (h : attestorlaw11_GapProducts.f k a0 a1 l2 l3 a4 = some r) :
  Calls Tryd.prog 5 #[.int .u8 a0, .int .u8 a1, .slice A2 l2.length c2, .slice A3 l3.length c3, .bool a4] w fun e w' => e = .returned (.bool r) ∧ Below w.heap.size w w' := by
 have hu26 := Tryd.underlying26
 have HG := ak hG
 clear hG
 have HR2 := ak hr2
 have HC2 := ak hc2
 clear hr2 hc2
 have HR3 := ak hr3
 have HC3 := ak hc3
 clear hr3 hc3
 have HB := ak (Below.refl w.heap.size w)
 have H := h
 clear h
 unfold attestorlaw11_GapProducts.f at H
 revert H
 refine bd_ fun t911 A6 H => ?_
 revert H
 refine bd_ fun t914 A7 H => ?_
 have HC8 := ak H
 clear H
 go_enter Tryd.func5, Tryd.ntmps5
 go_upto_if 37 with (first | (go_at_call 20; (with_reducible refine (attestorlaw11_list.calls k _ _ l2 (wrap64 (1 + (wrap64 (Int.tmod a0 5)))) (wrap64 (1 + (wrap64 (Int.tmod a1 3)))) t911 _ ?side1 ?side2 A6.out).mono ?_); (case side1 => exact cU_ HR2.out); (case side2 => exact HC2.out); rintro e w9 ⟨v912, rfl, ho0, hb⟩; refine nx2_ (Kd.N_lower (Kd.N_mono (ok' := fun k_ => True) (Kd.S_N (Kd.S_bound ho0)) (fun k_ hk_ => trivial)) (below_size (bU_ HB.out))) (below_step (bU_ HB.out) hb) ?_; clear HB; intro HO913 HB; clear hb ho0) | (go_at_call 20; (with_reducible refine (attestorlaw11_list.calls k _ _ l3 (wrap64 (1 + (wrap64 (Int.tmod a0 5)))) (wrap64 (1 + (wrap64 (Int.tmod a1 3)))) t914 _ ?side1 ?side2 A7.out).mono ?_); (case side1 => exact cU_ (C_below HR3.out HB.out)); (case side2 => exact HC3.out); rintro e w10 ⟨v915, rfl, ho0, hb⟩; refine nx3_ (Kd.N_elder' (by (with_reducible repeat (first | apply Kd.N_alloc | apply Kd.N_drewN | apply Kd.N_drew)); exact HO913.out) (by first | exact Kd.S_base ho0 | exact Kd.N_base ho0) hb) (Kd.N_lower (Kd.N_mono (ok' := fun k_ => some k_ ≠ (v912 : Value).ownBlock) (Kd.S_N (Kd.S_bound ho0)) (fun k_ hk_ => (fresh' (Kd.N_lt (by (with_reducible repeat (first | apply Kd.N_alloc | apply Kd.N_drewN | apply Kd.N_drew)); exact HO913.out)) k_ hk_.2.1))) (below_size (bU_ HB.out))) (below_step (bU_ HB.out) hb) ?_; clear HO913 HB; intro HO913 HO916 HB; clear hb ho0))
 repeat (go_quiet (first | (go_at_call 20; (with_reducible refine (attestorlaw11_list.calls k _ _ l2 (wrap64 (1 + (wrap64 (Int.tmod a0 5)))) (wrap64 (1 + (wrap64 (Int.tmod a1 3)))) t911 _ ?side1 ?side2 A6.out).mono ?_); (case side1 => exact cU_ HR2.out); (case side2 => exact HC2.out); rintro e w9 ⟨v912, rfl, ho0, hb⟩; refine nx2_ (Kd.N_lower (Kd.N_mono (ok' := fun k_ => True) (Kd.S_N (Kd.S_bound ho0)) (fun k_ hk_ => trivial)) (below_size (bU_ HB.out))) (below_step (bU_ HB.out) hb) ?_; clear HB; intro HO913 HB; clear hb ho0) | (go_at_call 20; (with_reducible refine (attestorlaw11_list.calls k _ _ l3 (wrap64 (1 + (wrap64 (Int.tmod a0 5)))) (wrap64 (1 + (wrap64 (Int.tmod a1 3)))) t914 _ ?side1 ?side2 A7.out).mono ?_); (case side1 => exact cU_ (C_below HR3.out HB.out)); (case side2 => exact HC3.out); rintro e w10 ⟨v915, rfl, ho0, hb⟩; refine nx3_ (Kd.N_elder' (by (with_reducible repeat (first | apply Kd.N_alloc | apply Kd.N_drewN | apply Kd.N_drew)); exact HO913.out) (by first | exact Kd.S_base ho0 | exact Kd.N_base ho0) hb) (Kd.N_lower (Kd.N_mono (ok' := fun k_ => some k_ ≠ (v912 : Value).ownBlock) (Kd.S_N (Kd.S_bound ho0)) (fun k_ hk_ => (fresh' (Kd.N_lt (by (with_reducible repeat (first | apply Kd.N_alloc | apply Kd.N_drewN | apply Kd.N_drew)); exact HO913.out)) k_ hk_.2.1))) (below_size (bU_ HB.out))) (below_step (bU_ HB.out) hb) ?_; clear HO913 HB; intro HO913 HO916 HB; clear hb ho0)); go_upto_if 37 with (first | (go_at_call 20; (with_reducible refine (attestorlaw11_list.calls k _ _ l2 (wrap64 (1 + (wrap64 (Int.tmod a0 5)))) (wrap64 (1 + (wrap64 (Int.tmod a1 3)))) t911 _ ?side1 ?side2 A6.out).mono ?_); (case side1 => exact cU_ HR2.out); (case side2 => exact HC2.out); rintro e w9 ⟨v912, rfl, ho0, hb⟩; refine nx2_ (Kd.N_lower (Kd.N_mono (ok' := fun k_ => True) (Kd.S_N (Kd.S_bound ho0)) (fun k_ hk_ => trivial)) (below_size (bU_ HB.out))) (below_step (bU_ HB.out) hb) ?_; clear HB; intro HO913 HB; clear hb ho0) | (go_at_call 20; (with_reducible refine (attestorlaw11_list.calls k _ _ l3 (wrap64 (1 + (wrap64 (Int.tmod a0 5)))) (wrap64 (1 + (wrap64 (Int.tmod a1 3)))) t914 _ ?side1 ?side2 A7.out).mono ?_); (case side1 => exact cU_ (C_below HR3.out HB.out)); (case side2 => exact HC3.out); rintro e w10 ⟨v915, rfl, ho0, hb⟩; refine nx3_ (Kd.N_elder' (by (with_reducible repeat (first | apply Kd.N_alloc | apply Kd.N_drewN | apply Kd.N_drew)); exact HO913.out) (by first | exact Kd.S_base ho0 | exact Kd.N_base ho0) hb) (Kd.N_lower (Kd.N_mono (ok' := fun k_ => some k_ ≠ (v912 : Value).ownBlock) (Kd.S_N (Kd.S_bound ho0)) (fun k_ hk_ => (fresh' (Kd.N_lt (by (with_reducible repeat (first | apply Kd.N_alloc | apply Kd.N_drewN | apply Kd.N_drew)); exact HO913.out)) k_ hk_.2.1))) (below_size (bU_ HB.out))) (below_step (bU_ HB.out) hb) ?_; clear HO913 HB; intro HO913 HO916 HB; clear hb ho0)))
 (try simp only [Act.put, s1_, s2_, s3_])
 go_cut [14] (fun v14 wc => ∃ (kq : Nat) (x14_7 : List (List Int)), Aside0 (attestorlaw11_GapProducts.j1 kq (wrap64 (1 + (wrap64 (Int.tmod a0 5)))) (wrap64 (1 + (wrap64 (Int.tmod a1 3)))) t911 x14_7 = some r) ∧ Aside0 (kq ≤ k) ∧ Aside0 (Kd.N (Kd.slice 48 (Kd.int .u64)) 35 wc w.heap.size (fun k_ => some k_ ≠ (v14 : Value).ownBlock) v912 t911) ∧ Aside0 (Kd.N (Kd.slice 48 (Kd.int .u64)) 35 wc w.heap.size (fun k_ => some k_ ≠ (v912 : Value).ownBlock) v14 x14_7) ∧ Aside0 (Below w.heap.size w wc))
 case first =>
  have H := HC8.out
  clear HC8
  by_cases c11 : a4 = true
  ·subst c11
   rw [if_pos rfl] at H
   have H' := ak H
   clear H
   go_wp2
   repeat (go_quiet (fail); try go_wp2)
   go_loopg [14, 15] k (fun kq v14 v15 w' => ∃ (x14_1 : List (List Int)) (x15_1 : Int), v15 = .int .i64 x15_1 ∧ Aside0 (attestorlaw11_GapProducts.l0 kq (wrap64 (1 + (wrap64 (Int.tmod a0 5)))) (wrap64 (1 + (wrap64 (Int.tmod a1 3)))) t911 x14_1 x15_1 = some r) ∧ Aside0 (kq ≤ k) ∧ Aside0 (Kd.N (Kd.slice 48 (Kd.int .u64)) 35 w' w.heap.size (fun k_ => some k_ ≠ (v14 : Value).ownBlock) v912 t911) ∧ Aside0 (Kd.N (Kd.slice 48 (Kd.int .u64)) 35 w' w.heap.size (fun k_ => some k_ ≠ (v912 : Value).ownBlock) v14 x14_1) ∧ Aside0 (Below w.heap.size w w'))
   case atStart => exact ⟨(([] : List (List Int))), (0), gb_, H', ⟨Nat.le_refl _⟩, ⟨by (with_reducible repeat (first | apply Kd.N_alloc | apply Kd.N_drewN | apply Kd.N_drew)); exact Kd.N_mono HO913.out (fun _ hk => (by simp [Value.ownBlock]))⟩, ⟨by first | exact Kd.S_nil _ _ _ _ _ | exact Kd.N_nil _ _ _ _ _ | exact Kd.V_nil _ _ _ _ _ | exact Kd.Q_nil _ _ _ _ _ | exact Kd.R_nil _ _ _ _ _⟩, ⟨bU_ HB.out⟩⟩
   case round =>
    clear H'
    (try clear c1); (try clear c2); (try clear p2); (try clear c3); (try clear c5); (try clear p6); (try clear c11)
    obtain ⟨x14_1, x15_1, rfl, HA, HK1, HO_13, HO_14, HB⟩ := hrel
    cases gk with
    | zero => exact absurd HA.out (by simp [attestorlaw11_GapProducts.l0])
    | succ k1 =>
     have H := HA.out
     clear HA
     simp only [attestorlaw11_GapProducts.l0] at H
     by_cases c12 : x15_1 < (wrap64 (1 + (wrap64 (Int.tmod a0 5))))
     ·rw [if_pos c12] at H
      have c12b0 := decide_eq_true c12
      clear c12
      (first | rw [c12b0] | (simp only [i64_w, i32_w]; rw [c12b0]) | rw [c12b1] | skip)
      by_cases c13 : (wrap64 (1 + (wrap64 (Int.tmod a0 5)))) = 0
      ·rw [if_pos c13] at H
       exact absurd H (by simp)
      rw [if_neg c13] at H
      have c13b0 := beq_eq_false_iff_ne.mpr c13
      have c13b1 := bne_iff_ne.mpr c13
      obtain ⟨ji14, hji14⟩ : ∃ j_ : Int, (Int.tmod (wrap64 (x15_1 + 1)) (wrap64 (1 + (wrap64 (Int.tmod a0 5))))) = j_ := ⟨_, rfl⟩
      first | rw [hji14] at H | simp only [hji14] at H
      obtain ⟨c15, H⟩ : (0 ≤ (ji14)) ∧ _ := it_ H
      have c15b0 := decide_eq_true c15
      clear c15
      obtain ⟨c16, H⟩ : ((ji14) < (t911.length : Int)) ∧ _ := it_ H
      have c16b0 := decide_eq_true c16
      clear c16
      obtain ⟨c17, H⟩ : (x14_1.length < 5864062014805) ∧ _ := it_ H
      have LMc17 := ak c17
      clear c17
      obtain ⟨y918, hy918⟩ : ∃ y_ : List (List Int), y_ = (x14_1 ++ [rd_L3 t911 (ji14)]) := ⟨_, rfl⟩
      replace H : (attestorlaw11_GapProducts.l0 k1 (wrap64 (1 + (wrap64 (Int.tmod a0 5)))) (wrap64 (1 + (wrap64 (Int.tmod a1 3)))) t911 y918 (wrap64 (x15_1 + 1))) = some r := by first | (rw [hy918]; with_reducible exact H) | (have H2_ := (Option.bind_some _ _).symm.trans H; rw [hy918]; with_reducible exact H2_) | (have H2_ := (Option.bind_some _ _).symm.trans H; with_reducible exact H2_) | with_reducible exact H | (rw [hy918]; exact H) | exact H
      have Ny918 := ak hy918
      clear hy918
      have H' := ak H
      clear H
      obtain ⟨Ao18, co18, eo18⟩ := Kd.N_slice HO_13.out
      subst eo18
      have p917 : 0 ≤ ((ji14) : Int) := od_
      have q917 : (ji14) < (t911.length : Int) := od_
      obtain ⟨ad917, A917_0, c917_0, e917, hx917_0, hl917_0, hi917_0⟩ := at_L3 (Kd.N_reads' HO_13.out).2.2 (ji14) p917 q917
      cases e917
      obtain ⟨ce917, hce917, hMe917, hcc917⟩ := Kd.N_get HO_13.out [] (ji14) p917 (by first | exact q917 | exact od_ | (have e_ := (Kd.N_reads' HO_13.out).1; omega))
      obtain ⟨ua917_0, uc917_0, rfl, ul917_0, ge917_0⟩ := Kd.FK_slice_open hMe917
      have hv917_0 := hcc917 0 _ rfl
      rw [Nat.add_zero, show ((Kd.slice 48 (Kd.int .u64))).sz = 1 from rfl, Nat.mul_one] at hv917_0
      replace hv917_0 := Option.some.inj (hv917_0.symm.trans hx917_0)
      injection hv917_0 with hva_ hvn_ hvc_
      rw [hva_] at ge917_0
      rw [hvc_] at ul917_0
      have HL917_0 := ak (show Kd.V (Kd.int .u64) 48 _ w.heap.size _ _ (rd_L3 t911 (ji14)) from V_mk ul917_0 ge917_0)
      clear hva_ hvn_ hvc_ ge917_0 ul917_0
      clear hcc917 hce917
      have HR917_0 := ak hi917_0
      have HC917_0 := ak hl917_0
      clear hi917_0 hl917_0
      replace p917 := eq_true p917
      replace q917 := eq_true q917
      go_wp2_with (first | ((with_reducible refine gate_builtin (b := .append) (xs := #[.tmp 43, .tmp 51]) rfl ?_); at_builtin; refine Kd.N_append (Kd.slice 48 (Kd.int .u64)) (w0 := w) w.heap.size rfl (.tmp 43) (.tmp 51) 42 35 (.slice none 0 0) 24 rfl Tryd.underlying42 info35 rfl (by decide) (by omega) u14 x14_1 (rd_L3 t911 (ji14)) [.slice A917_0 (rd_L3 t911 (ji14)).length c917_0] (fun k_ => some k_ ≠ (.slice (some ad917) t911.length co18 : Value).ownBlock) (fun k_ => ((fun k_ => some k_ ≠ (.slice (some ad917) t911.length co18 : Value).ownBlock)) k_ ∧ some k_ ≠ (u14 : Value).ownBlock) rfl rfl ?aP (fun _ hk => hk) ?aF ?aO ?aB ?aS ?aL ?_; (case aP => exact (Kd.FK_slice_mk (V_reads' (V_mono (ok' := (fun k_ => ((fun k_ => some k_ ≠ (.slice (some ad917) t911.length co18 : Value).ownBlock)) k_ ∧ some k_ ≠ (u14 : Value).ownBlock)) (HL917_0.out) (fun k_ hk => ⟨hk.2, hk.1⟩))).2.1 (Kd.V_F (e := 35) (base := w.heap.size) (V_mono (ok' := (fun k_ => ((fun k_ => some k_ ≠ (.slice (some ad917) t911.length co18 : Value).ownBlock)) k_ ∧ some k_ ≠ (u14 : Value).ownBlock)) (HL917_0.out) (fun k_ hk => ⟨hk.2, hk.1⟩))))); (case aB => exact (bU_ HB.out)); (case aF => exact (fun k_ hk => fresh' (Kd.N_lt (by (with_reducible repeat (first | apply Kd.N_alloc | apply Kd.N_drewN | apply Kd.N_drew)); exact HO_13.out)) k_ hk)); (case aO => exact (by (with_reducible repeat (first | apply Kd.N_alloc | apply Kd.N_drewN | apply Kd.N_drew)); exact HO_14.out)); (case aS => exact (below_size (bU_ HB.out))); (case aL => have := LMc17.out; omega); intro v919 w19 ho hb hg hat; rw [← Ny918.out] at ho; refine nx4_ (Kd.N_afterv (ok := (fun _ => True)) (by (with_reducible repeat (first | apply Kd.N_alloc | apply Kd.N_drewN | apply Kd.N_drew)); exact Kd.N_mono HO_13.out (fun _ hk => ⟨trivial, hk⟩)) hg hat) (Kd.V_afterv (ok := (fun k_ => some k_ ≠ (.slice (some ad917) t911.length co18 : Value).ownBlock)) (by (with_reducible repeat (first | apply Kd.V_alloc | apply Kd.V_drewN | apply V_drew)); exact V_mono HL917_0.out (fun _ hk => ⟨hk.2, hk.1⟩)) hg hat) (hb) (ho) ?_; clear HO_13 HL917_0 HB HO_14; intro HO_13 HL917_0 HB HO920; clear ho hb hg hat))
      repeat (go_quiet (first | ((with_reducible refine gate_builtin (b := .append) (xs := #[.tmp 43, .tmp 51]) rfl ?_); at_builtin; refine Kd.N_append (Kd.slice 48 (Kd.int .u64)) (w0 := w) w.heap.size rfl (.tmp 43) (.tmp 51) 42 35 (.slice none 0 0) 24 rfl Tryd.underlying42 info35 rfl (by decide) (by omega) u14 x14_1 (rd_L3 t911 (ji14)) [.slice A917_0 (rd_L3 t911 (ji14)).length c917_0] (fun k_ => some k_ ≠ (.slice (some ad917) t911.length co18 : Value).ownBlock) (fun k_ => ((fun k_ => some k_ ≠ (.slice (some ad917) t911.length co18 : Value).ownBlock)) k_ ∧ some k_ ≠ (u14 : Value).ownBlock) rfl rfl ?aP (fun _ hk => hk) ?aF ?aO ?aB ?aS ?aL ?_; (case aP => exact (Kd.FK_slice_mk (V_reads' (V_mono (ok' := (fun k_ => ((fun k_ => some k_ ≠ (.slice (some ad917) t911.length co18 : Value).ownBlock)) k_ ∧ some k_ ≠ (u14 : Value).ownBlock)) (HL917_0.out) (fun k_ hk => ⟨hk.2, hk.1⟩))).2.1 (Kd.V_F (e := 35) (base := w.heap.size) (V_mono (ok' := (fun k_ => ((fun k_ => some k_ ≠ (.slice (some ad917) t911.length co18 : Value).ownBlock)) k_ ∧ some k_ ≠ (u14 : Value).ownBlock)) (HL917_0.out) (fun k_ hk => ⟨hk.2, hk.1⟩))))); (case aB => exact (bU_ HB.out)); (case aF => exact (fun k_ hk => fresh' (Kd.N_lt (by (with_reducible repeat (first | apply Kd.N_alloc | apply Kd.N_drewN | apply Kd.N_drew)); exact HO_13.out)) k_ hk)); (case aO => exact (by (with_reducible repeat (first | apply Kd.N_alloc | apply Kd.N_drewN | apply Kd.N_drew)); exact HO_14.out)); (case aS => exact (below_size (bU_ HB.out))); (case aL => have := LMc17.out; omega); intro v919 w19 ho hb hg hat; rw [← Ny918.out] at ho; refine nx4_ (Kd.N_afterv (ok := (fun _ => True)) (by (with_reducible repeat (first | apply Kd.N_alloc | apply Kd.N_drewN | apply Kd.N_drew)); exact Kd.N_mono HO_13.out (fun _ hk => ⟨trivial, hk⟩)) hg hat) (Kd.V_afterv (ok := (fun k_ => some k_ ≠ (.slice (some ad917) t911.length co18 : Value).ownBlock)) (by (with_reducible repeat (first | apply Kd.V_alloc | apply Kd.V_drewN | apply V_drew)); exact V_mono HL917_0.out (fun _ hk => ⟨hk.2, hk.1⟩)) hg hat) (hb) (ho) ?_; clear HO_13 HL917_0 HB HO_14; intro HO_13 HL917_0 HB HO920; clear ho hb hg hat)); try go_wp2_with (first | ((with_reducible refine gate_builtin (b := .append) (xs := #[.tmp 43, .tmp 51]) rfl ?_); at_builtin; refine Kd.N_append (Kd.slice 48 (Kd.int .u64)) (w0 := w) w.heap.size rfl (.tmp 43) (.tmp 51) 42 35 (.slice none 0 0) 24 rfl Tryd.underlying42 info35 rfl (by decide) (by omega) u14 x14_1 (rd_L3 t911 (ji14)) [.slice A917_0 (rd_L3 t911 (ji14)).length c917_0] (fun k_ => some k_ ≠ (.slice (some ad917) t911.length co18 : Value).ownBlock) (fun k_ => ((fun k_ => some k_ ≠ (.slice (some ad917) t911.length co18 : Value).ownBlock)) k_ ∧ some k_ ≠ (u14 : Value).ownBlock) rfl rfl ?aP (fun _ hk => hk) ?aF ?aO ?aB ?aS ?aL ?_; (case aP => exact (Kd.FK_slice_mk (V_reads' (V_mono (ok' := (fun k_ => ((fun k_ => some k_ ≠ (.slice (some ad917) t911.length co18 : Value).ownBlock)) k_ ∧ some k_ ≠ (u14 : Value).ownBlock)) (HL917_0.out) (fun k_ hk => ⟨hk.2, hk.1⟩))).2.1 (Kd.V_F (e := 35) (base := w.heap.size) (V_mono (ok' := (fun k_ => ((fun k_ => some k_ ≠ (.slice (some ad917) t911.length co18 : Value).ownBlock)) k_ ∧ some k_ ≠ (u14 : Value).ownBlock)) (HL917_0.out) (fun k_ hk => ⟨hk.2, hk.1⟩))))); (case aB => exact (bU_ HB.out)); (case aF => exact (fun k_ hk => fresh' (Kd.N_lt (by (with_reducible repeat (first | apply Kd.N_alloc | apply Kd.N_drewN | apply Kd.N_drew)); exact HO_13.out)) k_ hk)); (case aO => exact (by (with_reducible repeat (first | apply Kd.N_alloc | apply Kd.N_drewN | apply Kd.N_drew)); exact HO_14.out)); (case aS => exact (below_size (bU_ HB.out))); (case aL => have := LMc17.out; omega); intro v919 w19 ho hb hg hat; rw [← Ny918.out] at ho; refine nx4_ (Kd.N_afterv (ok := (fun _ => True)) (by (with_reducible repeat (first | apply Kd.N_alloc | apply Kd.N_drewN | apply Kd.N_drew)); exact Kd.N_mono HO_13.out (fun _ hk => ⟨trivial, hk⟩)) hg hat) (Kd.V_afterv (ok := (fun k_ => some k_ ≠ (.slice (some ad917) t911.length co18 : Value).ownBlock)) (by (with_reducible repeat (first | apply Kd.V_alloc | apply Kd.V_drewN | apply V_drew)); exact V_mono HL917_0.out (fun _ hk => ⟨hk.2, hk.1⟩)) hg hat) (hb) (ho) ?_; clear HO_13 HL917_0 HB HO_14; intro HO_13 HL917_0 HB HO920; clear ho hb hg hat)))
      go_roundg k1
      case measure => have := HK1.out; omega
      case rel => exact ⟨(y918), (wrap64 (x15_1 + 1)), gb_, H', ⟨by have := HK1.out; omega⟩, ⟨by (with_reducible repeat (first | apply Kd.N_alloc | apply Kd.N_drewN | apply Kd.N_drew)); exact Kd.N_mono HO_13.out (fun _ hk => hk.2)⟩, ⟨by (with_reducible repeat (first | apply Kd.N_alloc | apply Kd.N_drewN | apply Kd.N_drew)); exact HO920.out⟩, ⟨bU_ HB.out⟩⟩
     rw [if_neg c12] at H
     have c12b0 := decide_eq_false c12
     clear c12
     (first | rw [c12b0] | (simp only [i64_w, i32_w]; rw [c12b0]) | rw [c12b1] | skip)
     have H' := ak H
     clear H
     go_wp2
     repeat (go_quiet (fail); try go_wp2)
     go_meet
     case rel => exact ⟨_, (x14_1), H', ⟨by have := HK1.out; first | omega | exact Nat.le_refl _⟩, ⟨by (with_reducible repeat (first | apply Kd.N_alloc | apply Kd.N_drewN | apply Kd.N_drew)); exact HO_13.out⟩, ⟨by (with_reducible repeat (first | apply Kd.N_alloc | apply Kd.N_drewN | apply Kd.N_drew)); exact HO_14.out⟩, ⟨bU_ HB.out⟩⟩
  replace c11 := Bool.eq_false_iff.mpr c11
  subst c11
  rw [if_neg (show ¬ (false = true) by decide)] at H
  have H' := ak H
  clear H
  go_wp2
  repeat (go_quiet (fail); try go_wp2)
  go_meet
  case rel => exact ⟨_, (t914), H', ⟨by first | omega | exact Nat.le_refl _⟩, ⟨by (with_reducible repeat (first | apply Kd.N_alloc | apply Kd.N_drewN | apply Kd.N_drew)); exact Kd.N_mono HO913.out (fun _ hk => hk.2)⟩, ⟨by (with_reducible repeat (first | apply Kd.N_alloc | apply Kd.N_drewN | apply Kd.N_drew)); exact HO916.out⟩, ⟨bU_ HB.out⟩⟩
 case rest =>
  clear HC8
  (try clear c1); (try clear c2); (try clear p2); (try clear c3); (try clear c5); (try clear p6); (try clear c9); (try clear p9); (try clear q9); (try clear hx9); (try clear c11); (try clear c12); (try clear c12b0); (try clear c12b1); (try clear c13); (try clear c13b0); (try clear c13b1); (try clear c15); (try clear c15b0); (try clear c16); (try clear c16b0); (try clear c17); (try clear hx917_0); (try clear p917); (try clear q917)
  obtain ⟨kq, x14_7, HA, HJ7, HO_13, HO_14, HB⟩ := hcut
  cases kq with
  | zero => exact absurd HA.out (by simp [attestorlaw11_GapProducts.j1])
  | succ kj7 =>
   have H := HA.out
   clear HA
   simp only [attestorlaw11_GapProducts.j1] at H
   have H' := ak H
   clear H
   go_wp2
   repeat (go_quiet (fail); try go_wp2)
   go_loopg [16, 17] kj7 (fun kq v16 v17 w' => ∃ (x16_2 : Bool) (x17_2 : Int), v16 = .bool x16_2 ∧ v17 = .int .i64 x17_2 ∧ Aside0 (attestorlaw11_GapProducts.l1 kq (wrap64 (1 + (wrap64 (Int.tmod a0 5)))) (wrap64 (1 + (wrap64 (Int.tmod a1 3)))) t911 x14_7 x16_2 x17_2 = some r) ∧ Aside0 (kq ≤ kj7) ∧ Aside0 (Kd.N (Kd.slice 48 (Kd.int .u64)) 35 w' w.heap.size (fun k_ => some k_ ≠ (u14 : Value).ownBlock) v912 t911) ∧ Aside0 (Kd.N (Kd.slice 48 (Kd.int .u64)) 35 w' w.heap.size (fun k_ => some k_ ≠ (v912 : Value).ownBlock) u14 x14_7) ∧ Aside0 (Below w.heap.size w w'))
   case atStart => exact ⟨(true), (0), gb_, gb_, H', ⟨Nat.le_refl _⟩, ⟨by (with_reducible repeat (first | apply Kd.N_alloc | apply Kd.N_drewN | apply Kd.N_drew)); exact HO_13.out⟩, ⟨by (with_reducible repeat (first | apply Kd.N_alloc | apply Kd.N_drewN | apply Kd.N_drew)); exact HO_14.out⟩, ⟨bU_ HB.out⟩⟩
   case round =>
    clear H'
    (try clear c1); (try clear c2); (try clear p2); (try clear c3); (try clear c5); (try clear p6); (try clear c9); (try clear p9); (try clear q9); (try clear hx9); (try clear c11); (try clear c12); (try clear c12b0); (try clear c12b1); (try clear c13); (try clear c13b0); (try clear c13b1); (try clear c15); (try clear c15b0); (try clear c16); (try clear c16b0); (try clear c17); (try clear hx917_0); (try clear p917); (try clear q917)
    obtain ⟨x16_2, x17_2, rfl, rfl, HA, HK2, HO_13, HO_14, HB⟩ := hrel
    cases gk with
    | zero => exact absurd HA.out (by simp [attestorlaw11_GapProducts.l1])
    | succ k2 =>
     have H := HA.out
     clear HA
     simp only [attestorlaw11_GapProducts.l1] at H
     by_cases c20 : x17_2 < (wrap64 (1 + (wrap64 (Int.tmod a0 5))))
     ·rw [if_pos c20] at H
      have c20b0 := decide_eq_true c20
      clear c20
      by_cases c21 : x16_2 = true
      ·subst c21
       rw [if_pos rfl] at H
       obtain ⟨c22, H⟩ : (0 ≤ x17_2) ∧ _ := it_ H
       have c22b0 := decide_eq_true c22
       clear c22
       obtain ⟨c23, H⟩ : (x17_2 < (t911.length : Int)) ∧ _ := it_ H
       have c23b0 := decide_eq_true c23
       clear c23
       revert H
       refine bd_ fun t922 A24 H => ?_
       revert H
       refine bd_ fun t924 A25 H => ?_
       have H' := ak H
       clear H
       obtain ⟨Ao26, co26, eo26⟩ := Kd.N_slice HO_13.out
       subst eo26
       have p921 : 0 ≤ (x17_2 : Int) := od_
       have q921 : x17_2 < (t911.length : Int) := od_
       obtain ⟨ad921, A921_0, c921_0, e921, hx921_0, hl921_0, hi921_0⟩ := at_L3 (Kd.N_reads' HO_13.out).2.2 x17_2 p921 q921
       cases e921
       obtain ⟨ce921, hce921, hMe921, hcc921⟩ := Kd.N_get HO_13.out [] x17_2 p921 (by first | exact q921 | exact od_ | (have e_ := (Kd.N_reads' HO_13.out).1; omega))
       obtain ⟨ua921_0, uc921_0, rfl, ul921_0, ge921_0⟩ := Kd.FK_slice_open hMe921
       have hv921_0 := hcc921 0 _ rfl
       rw [Nat.add_zero, show ((Kd.slice 48 (Kd.int .u64))).sz = 1 from rfl, Nat.mul_one] at hv921_0
       replace hv921_0 := Option.some.inj (hv921_0.symm.trans hx921_0)
       injection hv921_0 with hva_ hvn_ hvc_
       rw [hva_] at ge921_0
       rw [hvc_] at ul921_0
       have HL921_0 := ak (show Kd.V (Kd.int .u64) 48 _ w.heap.size _ _ (rd_L3 t911 x17_2) from V_mk ul921_0 ge921_0)
       clear hva_ hvn_ hvc_ ge921_0 ul921_0
       clear hcc921 hce921
       have HR921_0 := ak hi921_0
       have HC921_0 := ak hl921_0
       clear hi921_0 hl921_0
       replace p921 := eq_true p921
       replace q921 := eq_true q921
       go_wp2_with (first | (go_at_call 21; (with_reducible refine (attestorlaw11_often.calls k2 _ _ (rd_L3 t911 x17_2) _ _ t911 t922 _ ?side1 ?side2 ?side3 ?side4 A24.out).mono ?_); (case side1 => repeat (first | exact (by repeat (first | (with_reducible exact HR921_0.out) | (with_reducible refine Kd.C_alloc ?_ _) | (with_reducible refine Kd.C_drewN ?_ _) | (with_reducible refine Kd.C_drew ?_) | exact HR921_0.out)) | (with_reducible refine Kd.C_alloc ?_ _) | (with_reducible refine Kd.C_drewN ?_ _) | (with_reducible refine Kd.C_drew ?_))); (case side2 => exact HC921_0.out); (case side3 => exact cU_ ((Kd.N_reads' HO_13.out).2.2)); (case side4 => exact (Kd.N_reads' HO_13.out).2.1); rintro e w' ⟨rfl, ⟨nd, rfl⟩⟩; (try first | exact ⟨rfl, _, World.drewN_drewN _ _ _⟩ | exact ⟨rfl, _, dd_⟩); have p923 : 0 ≤ (x17_2 : Int) := od_; have q923 : x17_2 < (t911.length : Int) := od_; obtain ⟨ad923, A923_0, c923_0, e923, hx923_0, hl923_0, hi923_0⟩ := at_L3 (Kd.N_reads' HO_13.out).2.2 x17_2 p923 q923; obtain rfl : ad921 = ad923 := (by injection e923); obtain ⟨ce923, hce923, hMe923, hcc923⟩ := Kd.N_get HO_13.out [] x17_2 p923 (by first | exact q923 | exact od_ | (have e_ := (Kd.N_reads' HO_13.out).1; omega)); obtain ⟨ua923_0, uc923_0, rfl, ul923_0, ge923_0⟩ := Kd.FK_slice_open hMe923; have hv923_0 := hcc923 0 _ rfl; rw [Nat.add_zero, show ((Kd.slice 48 (Kd.int .u64))).sz = 1 from rfl, Nat.mul_one] at hv923_0; replace hv923_0 := Option.some.inj (hv923_0.symm.trans hx923_0); injection hv923_0 with hva_ hvn_ hvc_; rw [hva_] at ge923_0; rw [hvc_] at ul923_0; have HL923_0 := ak (show Kd.V (Kd.int .u64) 48 _ w.heap.size _ _ (rd_L3 t911 x17_2) from V_mk ul923_0 ge923_0); clear hva_ hvn_ hvc_ ge923_0 ul923_0; clear hcc923 hce923; have HR923_0 := ak hi923_0; have HC923_0 := ak hl923_0; clear hi923_0 hl923_0; replace p923 := eq_true p923; replace q923 := eq_true q923; have ea_ := Option.some.inj (hx921_0.symm.trans hx923_0); injection ea_ with ea_ en_ ec_; subst ea_; subst ec_; clear en_; obtain ⟨Ao27, co27, eo27⟩ := Kd.N_slice HO_14.out; subst eo27) | (go_at_call 21; (with_reducible refine (attestorlaw11_often.calls k2 _ _ (rd_L3 t911 x17_2) _ _ x14_7 t924 _ ?side1 ?side2 ?side3 ?side4 A25.out).mono ?_); (case side1 => repeat (first | exact (by repeat (first | (with_reducible exact HR923_0.out) | (with_reducible refine Kd.C_alloc ?_ _) | (with_reducible refine Kd.C_drewN ?_ _) | (with_reducible refine Kd.C_drew ?_) | exact HR923_0.out)) | (with_reducible refine Kd.C_alloc ?_ _) | (with_reducible refine Kd.C_drewN ?_ _) | (with_reducible refine Kd.C_drew ?_))); (case side2 => exact HC923_0.out); (case side3 => exact cU_ ((Kd.N_reads' HO_14.out).2.2)); (case side4 => exact (Kd.N_reads' HO_14.out).2.1); rintro e w' ⟨rfl, ⟨nd, rfl⟩⟩; (try first | exact ⟨rfl, _, World.drewN_drewN _ _ _⟩ | exact ⟨rfl, _, dd_⟩)))
       repeat (go_quiet (first | (go_at_call 21; (with_reducible refine (attestorlaw11_often.calls k2 _ _ (rd_L3 t911 x17_2) _ _ t911 t922 _ ?side1 ?side2 ?side3 ?side4 A24.out).mono ?_); (case side1 => repeat (first | exact (by repeat (first | (with_reducible exact HR921_0.out) | (with_reducible refine Kd.C_alloc ?_ _) | (with_reducible refine Kd.C_drewN ?_ _) | (with_reducible refine Kd.C_drew ?_) | exact HR921_0.out)) | (with_reducible refine Kd.C_alloc ?_ _) | (with_reducible refine Kd.C_drewN ?_ _) | (with_reducible refine Kd.C_drew ?_))); (case side2 => exact HC921_0.out); (case side3 => exact cU_ ((Kd.N_reads' HO_13.out).2.2)); (case side4 => exact (Kd.N_reads' HO_13.out).2.1); rintro e w' ⟨rfl, ⟨nd, rfl⟩⟩; (try first | exact ⟨rfl, _, World.drewN_drewN _ _ _⟩ | exact ⟨rfl, _, dd_⟩); have p923 : 0 ≤ (x17_2 : Int) := od_; have q923 : x17_2 < (t911.length : Int) := od_; obtain ⟨ad923, A923_0, c923_0, e923, hx923_0, hl923_0, hi923_0⟩ := at_L3 (Kd.N_reads' HO_13.out).2.2 x17_2 p923 q923; obtain rfl : ad921 = ad923 := (by injection e923); obtain ⟨ce923, hce923, hMe923, hcc923⟩ := Kd.N_get HO_13.out [] x17_2 p923 (by first | exact q923 | exact od_ | (have e_ := (Kd.N_reads' HO_13.out).1; omega)); obtain ⟨ua923_0, uc923_0, rfl, ul923_0, ge923_0⟩ := Kd.FK_slice_open hMe923; have hv923_0 := hcc923 0 _ rfl; rw [Nat.add_zero, show ((Kd.slice 48 (Kd.int .u64))).sz = 1 from rfl, Nat.mul_one] at hv923_0; replace hv923_0 := Option.some.inj (hv923_0.symm.trans hx923_0); injection hv923_0 with hva_ hvn_ hvc_; rw [hva_] at ge923_0; rw [hvc_] at ul923_0; have HL923_0 := ak (show Kd.V (Kd.int .u64) 48 _ w.heap.size _ _ (rd_L3 t911 x17_2) from V_mk ul923_0 ge923_0); clear hva_ hvn_ hvc_ ge923_0 ul923_0; clear hcc923 hce923; have HR923_0 := ak hi923_0; have HC923_0 := ak hl923_0; clear hi923_0 hl923_0; replace p923 := eq_true p923; replace q923 := eq_true q923; have ea_ := Option.some.inj (hx921_0.symm.trans hx923_0); injection ea_ with ea_ en_ ec_; subst ea_; subst ec_; clear en_; obtain ⟨Ao27, co27, eo27⟩ := Kd.N_slice HO_14.out; subst eo27) | (go_at_call 21; (with_reducible refine (attestorlaw11_often.calls k2 _ _ (rd_L3 t911 x17_2) _ _ x14_7 t924 _ ?side1 ?side2 ?side3 ?side4 A25.out).mono ?_); (case side1 => repeat (first | exact (by repeat (first | (with_reducible exact HR923_0.out) | (with_reducible refine Kd.C_alloc ?_ _) | (with_reducible refine Kd.C_drewN ?_ _) | (with_reducible refine Kd.C_drew ?_) | exact HR923_0.out)) | (with_reducible refine Kd.C_alloc ?_ _) | (with_reducible refine Kd.C_drewN ?_ _) | (with_reducible refine Kd.C_drew ?_))); (case side2 => exact HC923_0.out); (case side3 => exact cU_ ((Kd.N_reads' HO_14.out).2.2)); (case side4 => exact (Kd.N_reads' HO_14.out).2.1); rintro e w' ⟨rfl, ⟨nd, rfl⟩⟩; (try first | exact ⟨rfl, _, World.drewN_drewN _ _ _⟩ | exact ⟨rfl, _, dd_⟩))); try go_wp2_with (first | (go_at_call 21; (with_reducible refine (attestorlaw11_often.calls k2 _ _ (rd_L3 t911 x17_2) _ _ t911 t922 _ ?side1 ?side2 ?side3 ?side4 A24.out).mono ?_); (case side1 => repeat (first | exact (by repeat (first | (with_reducible exact HR921_0.out) | (with_reducible refine Kd.C_alloc ?_ _) | (with_reducible refine Kd.C_drewN ?_ _) | (with_reducible refine Kd.C_drew ?_) | exact HR921_0.out)) | (with_reducible refine Kd.C_alloc ?_ _) | (with_reducible refine Kd.C_drewN ?_ _) | (with_reducible refine Kd.C_drew ?_))); (case side2 => exact HC921_0.out); (case side3 => exact cU_ ((Kd.N_reads' HO_13.out).2.2)); (case side4 => exact (Kd.N_reads' HO_13.out).2.1); rintro e w' ⟨rfl, ⟨nd, rfl⟩⟩; (try first | exact ⟨rfl, _, World.drewN_drewN _ _ _⟩ | exact ⟨rfl, _, dd_⟩); have p923 : 0 ≤ (x17_2 : Int) := od_; have q923 : x17_2 < (t911.length : Int) := od_; obtain ⟨ad923, A923_0, c923_0, e923, hx923_0, hl923_0, hi923_0⟩ := at_L3 (Kd.N_reads' HO_13.out).2.2 x17_2 p923 q923; obtain rfl : ad921 = ad923 := (by injection e923); obtain ⟨ce923, hce923, hMe923, hcc923⟩ := Kd.N_get HO_13.out [] x17_2 p923 (by first | exact q923 | exact od_ | (have e_ := (Kd.N_reads' HO_13.out).1; omega)); obtain ⟨ua923_0, uc923_0, rfl, ul923_0, ge923_0⟩ := Kd.FK_slice_open hMe923; have hv923_0 := hcc923 0 _ rfl; rw [Nat.add_zero, show ((Kd.slice 48 (Kd.int .u64))).sz = 1 from rfl, Nat.mul_one] at hv923_0; replace hv923_0 := Option.some.inj (hv923_0.symm.trans hx923_0); injection hv923_0 with hva_ hvn_ hvc_; rw [hva_] at ge923_0; rw [hvc_] at ul923_0; have HL923_0 := ak (show Kd.V (Kd.int .u64) 48 _ w.heap.size _ _ (rd_L3 t911 x17_2) from V_mk ul923_0 ge923_0); clear hva_ hvn_ hvc_ ge923_0 ul923_0; clear hcc923 hce923; have HR923_0 := ak hi923_0; have HC923_0 := ak hl923_0; clear hi923_0 hl923_0; replace p923 := eq_true p923; replace q923 := eq_true q923; have ea_ := Option.some.inj (hx921_0.symm.trans hx923_0); injection ea_ with ea_ en_ ec_; subst ea_; subst ec_; clear en_; obtain ⟨Ao27, co27, eo27⟩ := Kd.N_slice HO_14.out; subst eo27) | (go_at_call 21; (with_reducible refine (attestorlaw11_often.calls k2 _ _ (rd_L3 t911 x17_2) _ _ x14_7 t924 _ ?side1 ?side2 ?side3 ?side4 A25.out).mono ?_); (case side1 => repeat (first | exact (by repeat (first | (with_reducible exact HR923_0.out) | (with_reducible refine Kd.C_alloc ?_ _) | (with_reducible refine Kd.C_drewN ?_ _) | (with_reducible refine Kd.C_drew ?_) | exact HR923_0.out)) | (with_reducible refine Kd.C_alloc ?_ _) | (with_reducible refine Kd.C_drewN ?_ _) | (with_reducible refine Kd.C_drew ?_))); (case side2 => exact HC923_0.out); (case side3 => exact cU_ ((Kd.N_reads' HO_14.out).2.2)); (case side4 => exact (Kd.N_reads' HO_14.out).2.1); rintro e w' ⟨rfl, ⟨nd, rfl⟩⟩; (try first | exact ⟨rfl, _, World.drewN_drewN _ _ _⟩ | exact ⟨rfl, _, dd_⟩))))
       go_roundg k2
       case measure => have := HJ7.out; have := HK2.out; omega
       case rel => exact ⟨((t922 == t924)), (wrap64 (x17_2 + 1)), gb_, gb_, H', ⟨by have := HJ7.out; have := HK2.out; omega⟩, ⟨by (with_reducible repeat (first | apply Kd.N_alloc | apply Kd.N_drewN | apply Kd.N_drew)); exact HO_13.out⟩, ⟨by (with_reducible repeat (first | apply Kd.N_alloc | apply Kd.N_drewN | apply Kd.N_drew)); exact HO_14.out⟩, ⟨bU_ HB.out⟩⟩
      replace c21 := Bool.eq_false_iff.mpr c21
      subst c21
      rw [if_neg (show ¬ (false = true) by decide)] at H
      have H' := ak H
      clear H
      go_wp2
      repeat (go_quiet (fail); try go_wp2)
      go_roundg k2
      case measure => have := HJ7.out; have := HK2.out; omega
      case rel => exact ⟨(false), (wrap64 (x17_2 + 1)), gb_, gb_, H', ⟨by have := HJ7.out; have := HK2.out; omega⟩, ⟨by (with_reducible repeat (first | apply Kd.N_alloc | apply Kd.N_drewN | apply Kd.N_drew)); exact HO_13.out⟩, ⟨by (with_reducible repeat (first | apply Kd.N_alloc | apply Kd.N_drewN | apply Kd.N_drew)); exact HO_14.out⟩, ⟨bU_ HB.out⟩⟩
     rw [if_neg c20] at H
     have c20b0 := decide_eq_false c20
     clear c20
     revert H
     refine bd2_ fun t925 t926 A28 H => ?_
     try dsimp only at H
     have HC29 := ak H
     clear H
     obtain ⟨Ao30, co30, eo30⟩ := Kd.N_slice HO_13.out
     subst eo30
     obtain ⟨Ao31, co31, eo31⟩ := Kd.N_slice HO_14.out
     subst eo31
     go_upto_if 81 with (first | (go_at_call 22; (with_reducible refine (gap_Equal.calls k2 0 _ _ t911 _ _ x14_7 t925 t926 _ ?side1 ?side2 ?side3 ?side4 ?side5 A28.out).mono ?_); (case side1 => exact fU_ HG.out HB.out); (case side2 => exact cU_ ((Kd.N_reads' HO_13.out).2.2)); (case side3 => exact (Kd.N_reads' HO_13.out).2.1); (case side4 => exact cU_ ((Kd.N_reads' HO_14.out).2.2)); (case side5 => exact (Kd.N_reads' HO_14.out).2.1); rintro e w32 ⟨rfl, hb⟩; refine nx3_ (Kd.N_below (by (with_reducible repeat (first | apply Kd.N_alloc | apply Kd.N_drewN | apply Kd.N_drew)); exact HO_13.out) hb) (Kd.N_below (by (with_reducible repeat (first | apply Kd.N_alloc | apply Kd.N_drewN | apply Kd.N_drew)); exact HO_14.out) hb) (below_step (bU_ HB.out) hb) ?_; clear HO_13 HO_14 HB; intro HO_13 HO_14 HB; clear hb))
     repeat (go_quiet (first | (go_at_call 22; (with_reducible refine (gap_Equal.calls k2 0 _ _ t911 _ _ x14_7 t925 t926 _ ?side1 ?side2 ?side3 ?side4 ?side5 A28.out).mono ?_); (case side1 => exact fU_ HG.out HB.out); (case side2 => exact cU_ ((Kd.N_reads' HO_13.out).2.2)); (case side3 => exact (Kd.N_reads' HO_13.out).2.1); (case side4 => exact cU_ ((Kd.N_reads' HO_14.out).2.2)); (case side5 => exact (Kd.N_reads' HO_14.out).2.1); rintro e w32 ⟨rfl, hb⟩; refine nx3_ (Kd.N_below (by (with_reducible repeat (first | apply Kd.N_alloc | apply Kd.N_drewN | apply Kd.N_drew)); exact HO_13.out) hb) (Kd.N_below (by (with_reducible repeat (first | apply Kd.N_alloc | apply Kd.N_drewN | apply Kd.N_drew)); exact HO_14.out) hb) (below_step (bU_ HB.out) hb) ?_; clear HO_13 HO_14 HB; intro HO_13 HO_14 HB; clear hb)); go_upto_if 81 with (first | (go_at_call 22; (with_reducible refine (gap_Equal.calls k2 0 _ _ t911 _ _ x14_7 t925 t926 _ ?side1 ?side2 ?side3 ?side4 ?side5 A28.out).mono ?_); (case side1 => exact fU_ HG.out HB.out); (case side2 => exact cU_ ((Kd.N_reads' HO_13.out).2.2)); (case side3 => exact (Kd.N_reads' HO_13.out).2.1); (case side4 => exact cU_ ((Kd.N_reads' HO_14.out).2.2)); (case side5 => exact (Kd.N_reads' HO_14.out).2.1); rintro e w32 ⟨rfl, hb⟩; refine nx3_ (Kd.N_below (by (with_reducible repeat (first | apply Kd.N_alloc | apply Kd.N_drewN | apply Kd.N_drew)); exact HO_13.out) hb) (Kd.N_below (by (with_reducible repeat (first | apply Kd.N_alloc | apply Kd.N_drewN | apply Kd.N_drew)); exact HO_14.out) hb) (below_step (bU_ HB.out) hb) ?_; clear HO_13 HO_14 HB; intro HO_13 HO_14 HB; clear hb)))
     (try simp only [Act.put, s1_, s2_, s3_])
     go_cut [] (fun wc => ∃ (kq : Nat), Aside0 (attestorlaw11_GapProducts.j3 kq (wrap64 (1 + (wrap64 (Int.tmod a0 5)))) (wrap64 (1 + (wrap64 (Int.tmod a1 3)))) x16_2 t925 = some r) ∧ Aside0 (kq ≤ k2) ∧ Aside0 (Below w.heap.size w wc))
     case first =>
      have H := HC29.out
      clear HC29
      obtain ⟨c33, H⟩ : (t926 = 0) ∧ _ := it_ H
      have c33b0 := beq_iff_eq.mpr c33
      have c33b1 := bne_eq_false_iff_eq.mpr c33
      clear c33
      (first | rw [c33b0] | (simp only [i64_w, i32_w]; rw [c33b0]) | rw [c33b1] | skip)
      have H' := ak H
      clear H
      go_wp2
      repeat (go_quiet (fail); try go_wp2)
      go_meet
      case rel => exact ⟨_, H', ⟨by have := HJ7.out; have := HK2.out; first | omega | exact Nat.le_refl _⟩, ⟨bU_ HB.out⟩⟩
     case rest =>
      clear HC29
      (try clear c1); (try clear c2); (try clear p2); (try clear c3); (try clear c5); (try clear p6); (try clear c9); (try clear p9); (try clear q9); (try clear hx9); (try clear c11); (try clear c12); (try clear c12b0); (try clear c12b1); (try clear c13); (try clear c13b0); (try clear c13b1); (try clear c15); (try clear c15b0); (try clear c16); (try clear c16b0); (try clear c17); (try clear c20); (try clear c20b0); (try clear c21); (try clear c22); (try clear c22b0); (try clear c23); (try clear c23b0); (try clear c33); (try clear c33b0); (try clear c33b1); (try clear hx917_0); (try clear hx921_0); (try clear hx923_0); (try clear p917); (try clear p921); (try clear p923); (try clear q917); (try clear q921); (try clear q923)
      obtain ⟨kq, HA, HJ28, HB⟩ := hcut
      cases kq with
      | zero => exact absurd HA.out (by simp [attestorlaw11_GapProducts.j3])
      | succ kj28 =>
       have H := HA.out
       clear HA
       simp only [attestorlaw11_GapProducts.j3] at H
       by_cases c34 : x16_2 = true
       ·subst c34
        rw [if_pos rfl] at H
        obtain ⟨c35, H⟩ : (t925 = 9409) ∧ _ := it_ H
        have c35b0 := beq_iff_eq.mpr c35
        have c35b1 := bne_eq_false_iff_eq.mpr c35
        clear c35
        revert H
        refine bd_ fun t927 A36 H => ?_
        obtain rfl := Option.some.inj H
        go_wp2_with (first | (go_at_call 16; (with_reducible refine (attestorlaw11_works.calls kj28  t927 _ ?side1 A36.out).mono ?_); (case side1 => exact fU_ HG.out HB.out); rintro e w37 ⟨rfl, hb⟩; refine nx1_ (below_step (bU_ HB.out) hb) ?_; clear HB; intro HB; clear hb))
        repeat (go_quiet (first | (go_at_call 16; (with_reducible refine (attestorlaw11_works.calls kj28  t927 _ ?side1 A36.out).mono ?_); (case side1 => exact fU_ HG.out HB.out); rintro e w37 ⟨rfl, hb⟩; refine nx1_ (below_step (bU_ HB.out) hb) ?_; clear HB; intro HB; clear hb)); try go_wp2_with (first | (go_at_call 16; (with_reducible refine (attestorlaw11_works.calls kj28  t927 _ ?side1 A36.out).mono ?_); (case side1 => exact fU_ HG.out HB.out); rintro e w37 ⟨rfl, hb⟩; refine nx1_ (below_step (bU_ HB.out) hb) ?_; clear HB; intro HB; clear hb)))
        go_ret
        exact ⟨eW_, bU_ HB.out⟩
       replace c34 := Bool.eq_false_iff.mpr c34
       subst c34
       rw [if_neg (show ¬ (false = true) by decide)] at H
       revert H
       refine bd3_ fun t928 t931 t934 A38 H => ?_
       try dsimp only at H
       revert H
       refine bd_ fun t936 A39 H => ?_
       by_cases c40 : t936 = true
       ·subst c40
        rw [if_pos rfl] at H
        revert H
        refine bd_ fun t937 A41 H => ?_
        obtain rfl := Option.some.inj H
        go_wp2_with (first | (go_at_call 12; (with_reducible refine (gap_EqualBound.calls kj28 0 (wrap64 (1 + (wrap64 (Int.tmod a0 5)))) (wrap64 (1 + (wrap64 (Int.tmod a1 3)))) t928 t931 t934 _ ?side1 A38.out).mono ?_); (case side1 => exact fU_ HG.out HB.out); rintro e w42 ⟨v929, v932, rfl, ho0, ho1, hb⟩; refine nx3_ (V_lower (V_mono (ok' := fun k_ => True) ho0 (fun k_ hk_ => trivial)) (below_size (bU_ HB.out))) (V_lower (V_mono (ok' := fun k_ => True) ho1 (fun k_ hk_ => trivial)) (below_size (bU_ HB.out))) (below_step (bU_ HB.out) hb) ?_; clear HB; intro HO930 HO933 HB; clear hb ho0 ho1) | ((with_reducible refine gate_dst (N := 20) rfl ?_); refine bx_ 20 26 #[.slice none 0 0, .slice none 0 0] ?_; intro gb935 hg w43 hbox hb; refine nx6_ (V_below (V_elderB (vU_ HO930.out) gb935 (Nat.le_of_eq hg.symm)) hb) (V_below (V_elderB (vU_ HO933.out) gb935 (Nat.le_of_eq hg.symm)) hb) (below_step (bU_ HB.out) hb) (hbox) ((hs_ hg (below_size (bU_ HB.out)))) ((hs_ hg (below_size (bU_ HB.out)))) ?_; clear HO930 HO933 HB; intro HO930 HO933 HB BK935 GW935 GE935; clear hb hbox hg; obtain ⟨Ao44, co44, eo44⟩ := V_slice HO930.out; subst eo44; have hcz45_0 := bc0_ BK935.out; have hcz45_1 := bc1_ BK935.out; have hfz45_0 := blk_frozen BK935.out 0; have hfz45_1 := blk_frozen BK935.out 1; obtain ⟨Ao46, co46, eo46⟩ := V_slice HO933.out; subst eo46) | (go_at_call 23; (with_reducible refine (attestorlaw11_part.calls kj28 t925 9409 _ _ t928 _ _ t931 t934 true _ ?side1 ?side2 ?side3 ?side4 A39.out).mono ?_); (case side1 => refine (V_reads' (e := 115) (base := w.heap.size) (ok := fun k_ => (True ∧ k_ ≠ gb935)) (n := t928.length) (c := co44) ?_).2.2; exact (vL_ (vf_ gb935 HO930.out fun _ hk => hk.2))); (case side2 => exact (V_reads' HO930.out).2.1); (case side3 => refine (V_reads' (e := 115) (base := w.heap.size) (ok := fun k_ => (True ∧ k_ ≠ gb935)) (n := t931.length) (c := co46) ?_).2.2; exact (vL_ (vf_ gb935 HO933.out fun _ hk => hk.2))); (case side4 => exact (V_reads' HO933.out).2.1); rintro e w47 ⟨rfl, hb⟩; refine nx4_ (V_below (vL_ (vf_ gb935 HO930.out fun _ hk => hk.2)) hb) (V_below (vL_ (vf_ gb935 HO933.out fun _ hk => hk.2)) hb) (blk_below (g := gb935) (o := .cells #[.slice Ao44 t928.length co44, .slice Ao46 t931.length co46] 26 (0, 0)) kp_ hb) (below_step sU_ hb) ?_; clear HO930 HO933 BK935 HB; intro HO930 HO933 BK935 HB; clear hb) | (go_at_call 16; (with_reducible refine (attestorlaw11_works.calls kj28  t937 _ ?side1 A41.out).mono ?_); (case side1 => repeat (first | with_reducible exact HG.out | with_reducible exact (Fld.below HG.out HB.out) | exact (Fld.below HG.out sU_) | (with_reducible refine Fld.alloc ?_ _) | (with_reducible refine Fld.drewN ?_ _) | (with_reducible refine Fld.drew ?_))); rintro e w48 ⟨rfl, hb⟩; refine nx4_ (V_below (vU_ HO930.out) hb) (V_below (vU_ HO933.out) hb) (blk_below (kU_ BK935.out) hb) (below_step sU_ hb) ?_; clear HO930 HO933 BK935 HB; intro HO930 HO933 BK935 HB; clear hb))
        repeat (go_quiet (first | (go_at_call 12; (with_reducible refine (gap_EqualBound.calls kj28 0 (wrap64 (1 + (wrap64 (Int.tmod a0 5)))) (wrap64 (1 + (wrap64 (Int.tmod a1 3)))) t928 t931 t934 _ ?side1 A38.out).mono ?_); (case side1 => exact fU_ HG.out HB.out); rintro e w42 ⟨v929, v932, rfl, ho0, ho1, hb⟩; refine nx3_ (V_lower (V_mono (ok' := fun k_ => True) ho0 (fun k_ hk_ => trivial)) (below_size (bU_ HB.out))) (V_lower (V_mono (ok' := fun k_ => True) ho1 (fun k_ hk_ => trivial)) (below_size (bU_ HB.out))) (below_step (bU_ HB.out) hb) ?_; clear HB; intro HO930 HO933 HB; clear hb ho0 ho1) | ((with_reducible refine gate_dst (N := 20) rfl ?_); refine bx_ 20 26 #[.slice none 0 0, .slice none 0 0] ?_; intro gb935 hg w43 hbox hb; refine nx6_ (V_below (V_elderB (vU_ HO930.out) gb935 (Nat.le_of_eq hg.symm)) hb) (V_below (V_elderB (vU_ HO933.out) gb935 (Nat.le_of_eq hg.symm)) hb) (below_step (bU_ HB.out) hb) (hbox) ((hs_ hg (below_size (bU_ HB.out)))) ((hs_ hg (below_size (bU_ HB.out)))) ?_; clear HO930 HO933 HB; intro HO930 HO933 HB BK935 GW935 GE935; clear hb hbox hg; obtain ⟨Ao44, co44, eo44⟩ := V_slice HO930.out; subst eo44; have hcz45_0 := bc0_ BK935.out; have hcz45_1 := bc1_ BK935.out; have hfz45_0 := blk_frozen BK935.out 0; have hfz45_1 := blk_frozen BK935.out 1; obtain ⟨Ao46, co46, eo46⟩ := V_slice HO933.out; subst eo46) | (go_at_call 23; (with_reducible refine (attestorlaw11_part.calls kj28 t925 9409 _ _ t928 _ _ t931 t934 true _ ?side1 ?side2 ?side3 ?side4 A39.out).mono ?_); (case side1 => refine (V_reads' (e := 115) (base := w.heap.size) (ok := fun k_ => (True ∧ k_ ≠ gb935)) (n := t928.length) (c := co44) ?_).2.2; exact (vL_ (vf_ gb935 HO930.out fun _ hk => hk.2))); (case side2 => exact (V_reads' HO930.out).2.1); (case side3 => refine (V_reads' (e := 115) (base := w.heap.size) (ok := fun k_ => (True ∧ k_ ≠ gb935)) (n := t931.length) (c := co46) ?_).2.2; exact (vL_ (vf_ gb935 HO933.out fun _ hk => hk.2))); (case side4 => exact (V_reads' HO933.out).2.1); rintro e w47 ⟨rfl, hb⟩; refine nx4_ (V_below (vL_ (vf_ gb935 HO930.out fun _ hk => hk.2)) hb) (V_below (vL_ (vf_ gb935 HO933.out fun _ hk => hk.2)) hb) (blk_below (g := gb935) (o := .cells #[.slice Ao44 t928.length co44, .slice Ao46 t931.length co46] 26 (0, 0)) kp_ hb) (below_step sU_ hb) ?_; clear HO930 HO933 BK935 HB; intro HO930 HO933 BK935 HB; clear hb) | (go_at_call 16; (with_reducible refine (attestorlaw11_works.calls kj28  t937 _ ?side1 A41.out).mono ?_); (case side1 => repeat (first | with_reducible exact HG.out | with_reducible exact (Fld.below HG.out HB.out) | exact (Fld.below HG.out sU_) | (with_reducible refine Fld.alloc ?_ _) | (with_reducible refine Fld.drewN ?_ _) | (with_reducible refine Fld.drew ?_))); rintro e w48 ⟨rfl, hb⟩; refine nx4_ (V_below (vU_ HO930.out) hb) (V_below (vU_ HO933.out) hb) (blk_below (kU_ BK935.out) hb) (below_step sU_ hb) ?_; clear HO930 HO933 BK935 HB; intro HO930 HO933 BK935 HB; clear hb)); try go_wp2_with (first | (go_at_call 12; (with_reducible refine (gap_EqualBound.calls kj28 0 (wrap64 (1 + (wrap64 (Int.tmod a0 5)))) (wrap64 (1 + (wrap64 (Int.tmod a1 3)))) t928 t931 t934 _ ?side1 A38.out).mono ?_); (case side1 => exact fU_ HG.out HB.out); rintro e w42 ⟨v929, v932, rfl, ho0, ho1, hb⟩; refine nx3_ (V_lower (V_mono (ok' := fun k_ => True) ho0 (fun k_ hk_ => trivial)) (below_size (bU_ HB.out))) (V_lower (V_mono (ok' := fun k_ => True) ho1 (fun k_ hk_ => trivial)) (below_size (bU_ HB.out))) (below_step (bU_ HB.out) hb) ?_; clear HB; intro HO930 HO933 HB; clear hb ho0 ho1) | ((with_reducible refine gate_dst (N := 20) rfl ?_); refine bx_ 20 26 #[.slice none 0 0, .slice none 0 0] ?_; intro gb935 hg w43 hbox hb; refine nx6_ (V_below (V_elderB (vU_ HO930.out) gb935 (Nat.le_of_eq hg.symm)) hb) (V_below (V_elderB (vU_ HO933.out) gb935 (Nat.le_of_eq hg.symm)) hb) (below_step (bU_ HB.out) hb) (hbox) ((hs_ hg (below_size (bU_ HB.out)))) ((hs_ hg (below_size (bU_ HB.out)))) ?_; clear HO930 HO933 HB; intro HO930 HO933 HB BK935 GW935 GE935; clear hb hbox hg; obtain ⟨Ao44, co44, eo44⟩ := V_slice HO930.out; subst eo44; have hcz45_0 := bc0_ BK935.out; have hcz45_1 := bc1_ BK935.out; have hfz45_0 := blk_frozen BK935.out 0; have hfz45_1 := blk_frozen BK935.out 1; obtain ⟨Ao46, co46, eo46⟩ := V_slice HO933.out; subst eo46) | (go_at_call 23; (with_reducible refine (attestorlaw11_part.calls kj28 t925 9409 _ _ t928 _ _ t931 t934 true _ ?side1 ?side2 ?side3 ?side4 A39.out).mono ?_); (case side1 => refine (V_reads' (e := 115) (base := w.heap.size) (ok := fun k_ => (True ∧ k_ ≠ gb935)) (n := t928.length) (c := co44) ?_).2.2; exact (vL_ (vf_ gb935 HO930.out fun _ hk => hk.2))); (case side2 => exact (V_reads' HO930.out).2.1); (case side3 => refine (V_reads' (e := 115) (base := w.heap.size) (ok := fun k_ => (True ∧ k_ ≠ gb935)) (n := t931.length) (c := co46) ?_).2.2; exact (vL_ (vf_ gb935 HO933.out fun _ hk => hk.2))); (case side4 => exact (V_reads' HO933.out).2.1); rintro e w47 ⟨rfl, hb⟩; refine nx4_ (V_below (vL_ (vf_ gb935 HO930.out fun _ hk => hk.2)) hb) (V_below (vL_ (vf_ gb935 HO933.out fun _ hk => hk.2)) hb) (blk_below (g := gb935) (o := .cells #[.slice Ao44 t928.length co44, .slice Ao46 t931.length co46] 26 (0, 0)) kp_ hb) (below_step sU_ hb) ?_; clear HO930 HO933 BK935 HB; intro HO930 HO933 BK935 HB; clear hb) | (go_at_call 16; (with_reducible refine (attestorlaw11_works.calls kj28  t937 _ ?side1 A41.out).mono ?_); (case side1 => repeat (first | with_reducible exact HG.out | with_reducible exact (Fld.below HG.out HB.out) | exact (Fld.below HG.out sU_) | (with_reducible refine Fld.alloc ?_ _) | (with_reducible refine Fld.drewN ?_ _) | (with_reducible refine Fld.drew ?_))); rintro e w48 ⟨rfl, hb⟩; refine nx4_ (V_below (vU_ HO930.out) hb) (V_below (vU_ HO933.out) hb) (blk_below (kU_ BK935.out) hb) (below_step sU_ hb) ?_; clear HO930 HO933 BK935 HB; intro HO930 HO933 BK935 HB; clear hb)))
        go_ret
        exact ⟨eW_, sU_⟩
       replace c40 := Bool.eq_false_iff.mpr c40
       subst c40
       rw [if_neg (show ¬ (false = true) by decide)] at H
       exact absurd H (by simp)

end Go.Proofs.YtbjeemlbjkmhiaaDoor.Q

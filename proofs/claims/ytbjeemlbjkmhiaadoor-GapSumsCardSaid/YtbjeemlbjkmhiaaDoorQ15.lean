import Derived.Test.YtbjeemlbjkmhiaaDoorQ0
import Derived.Test.YtbjeemlbjkmhiaaDoorQ4
import Derived.Test.YtbjeemlbjkmhiaaDoorQ10
import Derived.Test.YtbjeemlbjkmhiaaDoorQ14
namespace Go.Proofs.YtbjeemlbjkmhiaaDoor.Q
open Go.RowKit Go.Proofs.YtbjeemlbjkmhiaaDoorW.PrintWords Go.Proofs.YtbjeemlbjkmhiaaDoorW.PrintLast Go.Proofs.YtbjeemlbjkmhiaaDoorW.PrintMore
open Kd (R_below R_mono R_lower R_new' R_elder' R_base R_lt R_slice R_reads' R_make V_below V_mono V_lower V_elderB V_slice V_reads' V_mk C_below fresh' V_drew)
attribute [local go_sem] max2_int min2_int max_two min_two max_three min_three max_four min_four   -- for this text's walks alone
set_option linter.unusedVariables false
set_option linter.unusedSimpArgs false

mutual
def gSums_.j1 : Nat → Int → Int → Int → List (List Int) → List (List Int) → List Int → Option (Bool)
 | 0, _, _, _, _, _, _ => none
 | k + 1, x15, x16, x17, x18, x19, x20 => gSums_.l1 k x15 x16 x17 x18 x19 x20 true 0
def gSums_.l1 : Nat → Int → Int → Int → List (List Int) → List (List Int) → List Int → Bool → Int → Option (Bool)
 | 0, _, _, _, _, _, _, _, _ => none
 | k + 1, x15, x16, x17, x18, x19, x20, x23, x24 => if x24 < (wrap64 (x15 + x16)) then (gSums_.j3 k x15 x16 x17 x18 x19 x20 x23 x24) else ((gap_Found.f k 0 x18 x19 x20).bind fun bt994 => (if bt994.2 = 0 then (gSums_.j8 k x15 x16 x17 x18 x19 x23 bt994.1) else (none)))
def gSums_.j3 : Nat → Int → Int → Int → List (List Int) → List (List Int) → List Int → Bool → Int → Option (Bool)
 | 0, _, _, _, _, _, _, _, _ => none
 | k + 1, x15, x16, x17, x18, x19, x20, x23, x24 => if 0 < (x19.length : Int) then (if x24 < x15 then (if 0 ≤ x24 then (if x24 < (x18.length : Int) then (gSums_.l2 k x15 x16 x17 x18 x19 x20 x23 x24 (rd_L3 x18 x24) 0 0) else (none)) else (none)) else (if 0 ≤ (wrap64 (x24 - x15)) then (if (wrap64 (x24 - x15)) < (x19.length : Int) then (gSums_.l3 k x15 x16 x17 x18 x19 x20 x23 x24 (rd_L3 x19 (wrap64 (x24 - x15))) 0 0) else (none)) else (none))) else (none)
def gSums_.l2 : Nat → Int → Int → Int → List (List Int) → List (List Int) → List Int → Bool → Int → List Int → Int → Int → Option (Bool)
 | 0, _, _, _, _, _, _, _, _, _, _, _ => none
 | k + 1, x15, x16, x17, x18, x19, x20, x23, x24, x25, x26, x27 => if x27 < x16 then (gSums_.j5 k x15 x16 x17 x18 x19 x20 x23 x24 x25 x26 x27) else (if x23 = true then ((a11often.f k x25 x18).bind fun t983 => (gSums_.l1 k x15 x16 x17 x18 x19 x20 (x26 == (Int.tmod (IntKind.u64.wrap (t983)) 97)) (wrap64 (x24 + 1)))) else (gSums_.l1 k x15 x16 x17 x18 x19 x20 false (wrap64 (x24 + 1))))
def gSums_.j5 : Nat → Int → Int → Int → List (List Int) → List (List Int) → List Int → Bool → Int → List Int → Int → Int → Option (Bool)
 | 0, _, _, _, _, _, _, _, _, _, _, _ => none
 | k + 1, x15, x16, x17, x18, x19, x20, x23, x24, x25, x26, x27 => if 0 ≤ x27 then (if x27 < (x19.length : Int) then ((a11equal.f k x25 (rd_L3 x19 x27)).bind fun t985 => (if t985 = true then (if x27 < (x20.length : Int) then ((field_Add.f 0 x26 (rd x20 x27)).bind fun t987 => (gSums_.l2 k x15 x16 x17 x18 x19 x20 x23 x24 x25 t987 (wrap64 (x27 + 1)))) else (none)) else (gSums_.l2 k x15 x16 x17 x18 x19 x20 x23 x24 x25 x26 (wrap64 (x27 + 1))))) else (none)) else (none)
def gSums_.l3 : Nat → Int → Int → Int → List (List Int) → List (List Int) → List Int → Bool → Int → List Int → Int → Int → Option (Bool)
 | 0, _, _, _, _, _, _, _, _, _, _, _ => none
 | k + 1, x15, x16, x17, x18, x19, x20, x23, x24, x25, x26, x27 => if x27 < x16 then (gSums_.j7 k x15 x16 x17 x18 x19 x20 x23 x24 x25 x26 x27) else (if x23 = true then ((a11often.f k x25 x18).bind fun t989 => (gSums_.l1 k x15 x16 x17 x18 x19 x20 (x26 == (Int.tmod (IntKind.u64.wrap (t989)) 97)) (wrap64 (x24 + 1)))) else (gSums_.l1 k x15 x16 x17 x18 x19 x20 false (wrap64 (x24 + 1))))
def gSums_.j7 : Nat → Int → Int → Int → List (List Int) → List (List Int) → List Int → Bool → Int → List Int → Int → Int → Option (Bool)
 | 0, _, _, _, _, _, _, _, _, _, _, _ => none
 | k + 1, x15, x16, x17, x18, x19, x20, x23, x24, x25, x26, x27 => if 0 ≤ x27 then (if x27 < (x19.length : Int) then ((a11equal.f k x25 (rd_L3 x19 x27)).bind fun t991 => (if t991 = true then (if x27 < (x20.length : Int) then ((field_Add.f 0 x26 (rd x20 x27)).bind fun t993 => (gSums_.l3 k x15 x16 x17 x18 x19 x20 x23 x24 x25 t993 (wrap64 (x27 + 1)))) else (none)) else (gSums_.l3 k x15 x16 x17 x18 x19 x20 x23 x24 x25 x26 (wrap64 (x27 + 1))))) else (none)) else (none)
def gSums_.j8 : Nat → Int → Int → Int → List (List Int) → List (List Int) → Bool → Int → Option (Bool)
 | 0, _, _, _, _, _, _, _ => none
 | k + 1, x15, x16, x17, x18, x19, x23, x28 => if x23 = true then (gSums_.j9 k x15 x16 x18 x19 x28) else ((gap_FoundBound.f k 0 x15 x16 x17).bind fun bt996 => ((a11part.f k x28 9409 bt996.1 bt996.2.1 bt996.2.2).bind fun t1004 => (if t1004 = true then ((a11works.f k).bind fun t1005 => (some t1005)) else (none))))
def gSums_.j9 : Nat → Int → Int → List (List Int) → List (List Int) → Int → Option (Bool)
 | 0, _, _, _, _, _ => none
 | k + 1, x15, x16, x18, x19, x28 => gSums_.l4 k x15 x16 x18 x19 x28 0 0
def gSums_.l4 : Nat → Int → Int → List (List Int) → List (List Int) → Int → Int → Int → Option (Bool)
 | 0, _, _, _, _, _, _, _ => none
 | k + 1, x15, x16, x18, x19, x28, x32, x33 => if x33 < 97 then (gSums_.j11 k x15 x16 x18 x19 x28 x32 x33) else (if x28 = x32 then ((a11works.f k).bind fun t1006 => (some t1006)) else (none))
def gSums_.j11 : Nat → Int → Int → List (List Int) → List (List Int) → Int → Int → Int → Option (Bool)
 | 0, _, _, _, _, _, _, _ => none
 | k + 1, x15, x16, x18, x19, x28, x32, x33 => gSums_.l5 k x15 x16 x18 x19 x28 x32 x33 0
def gSums_.l5 : Nat → Int → Int → List (List Int) → List (List Int) → Int → Int → Int → Int → Option (Bool)
 | 0, _, _, _, _, _, _, _, _ => none
 | k + 1, x15, x16, x18, x19, x28, x32, x33, x34 => if x34 < 97 then (gSums_.j13 k x15 x16 x18 x19 x28 x32 x33 x34) else (gSums_.l4 k x15 x16 x18 x19 x28 x32 (IntKind.u64.wrap (x33 + 1)))
def gSums_.j13 : Nat → Int → Int → List (List Int) → List (List Int) → Int → Int → Int → Int → Option (Bool)
 | 0, _, _, _, _, _, _, _, _ => none
 | k + 1, x15, x16, x18, x19, x28, x32, x33, x34 => gSums_.l6 k x15 x16 x18 x19 x28 x32 x33 x34 true 0
def gSums_.l6 : Nat → Int → Int → List (List Int) → List (List Int) → Int → Int → Int → Int → Bool → Int → Option (Bool)
 | 0, _, _, _, _, _, _, _, _, _, _ => none
 | k + 1, x15, x16, x18, x19, x28, x32, x33, x34, x35, x36 => if x36 < x15 then (if x35 = true then (if 0 ≤ x36 then (if x36 < (x18.length : Int) then ((poly_Eval.f k 0 (rd_L3 x18 x36) x34).bind fun t1008 => (gSums_.l6 k x15 x16 x18 x19 x28 x32 x33 x34 ((Int.tmod (IntKind.u64.wrap (x33 + t1008)) 97) != 0) (wrap64 (x36 + 1)))) else (none)) else (none)) else (gSums_.l6 k x15 x16 x18 x19 x28 x32 x33 x34 false (wrap64 (x36 + 1)))) else (gSums_.l7 k x15 x16 x18 x19 x28 x32 x33 x34 x35 0)
def gSums_.l7 : Nat → Int → Int → List (List Int) → List (List Int) → Int → Int → Int → Int → Bool → Int → Option (Bool)
 | 0, _, _, _, _, _, _, _, _, _, _ => none
 | k + 1, x15, x16, x18, x19, x28, x32, x33, x34, x35, x37 => if x37 < x16 then (if x35 = true then (if 0 ≤ x37 then (if x37 < (x19.length : Int) then ((poly_Eval.f k 0 (rd_L3 x19 x37) x34).bind fun t1010 => (gSums_.l7 k x15 x16 x18 x19 x28 x32 x33 x34 ((Int.tmod (IntKind.u64.wrap (x33 + t1010)) 97) != 0) (wrap64 (x37 + 1)))) else (none)) else (none)) else (gSums_.l7 k x15 x16 x18 x19 x28 x32 x33 x34 false (wrap64 (x37 + 1)))) else (if x35 = true then (gSums_.l5 k x15 x16 x18 x19 x28 (wrap64 (x32 + 1)) x33 (IntKind.u64.wrap (x34 + 1))) else (gSums_.l5 k x15 x16 x18 x19 x28 x32 x33 (IntKind.u64.wrap (x34 + 1))))
def gSums_.l0 : Nat → Int → Int → Int → List (List Int) → List (List Int) → List Int → Int → Option (Bool)
 | 0, _, _, _, _, _, _, _ => none
 | k + 1, x15, x16, x17, x18, x19, x20, x21 => if x21 < x15 then (if 0 ≤ x21 then (if x21 < (x18.length : Int) then (if 0 < ((rd_L3 x18 x21).length : Int) then (if x16 = 0 then (none) else (if 0 ≤ (Int.tmod (wrap64 (rd (rd_L3 x18 x21) 0)) x16) then (if (Int.tmod (wrap64 (rd (rd_L3 x18 x21) 0)) x16) < (x19.length : Int) then (if (Int.tmod (wrap64 (rd (rd_L3 x18 x21) 0)) x16) < (x20.length : Int) then (gSums_.l0 k x15 x16 x17 (x18.set (x21 : Int).toNat (rd_L3 x19 (Int.tmod (wrap64 (rd (rd_L3 x18 x21) 0)) x16))) x19 (x20.set ((Int.tmod (wrap64 (rd (rd_L3 x18 x21) 0)) x16) : Int).toNat (IntKind.u64.wrap ((rd x20 (Int.tmod (wrap64 (rd (rd_L3 x18 x21) 0)) x16)) + 1))) (wrap64 (x21 + 1))) else (none)) else (none)) else (none))) else (none)) else (none)) else (none)) else (gSums_.j1 k x15 x16 x17 x18 x19 x20)
end
def gSums_.f (k : Nat) (a0 : Int) (a1 : Int) (a2 : Int) (l3 : List (List Int)) (l4 : List (List Int)) (l5 : List Int) (a6 : Bool) : Option (Bool) := (a11list.f k l3 (wrap64 (Int.tmod a0 5)) (wrap64 (1 + (wrap64 (Int.tmod a2 2))))).bind fun t961 => ((a11list.f k l4 (wrap64 (1 + (wrap64 (Int.tmod a1 4)))) (wrap64 (1 + (wrap64 (Int.tmod a2 2))))).bind fun t964 => (if 0 ≤ (wrap64 (1 + (wrap64 (Int.tmod a1 4)))) then (if (wrap64 (1 + (wrap64 (Int.tmod a1 4))) : Int).toNat ≤ 35184372088832 then (if a6 = true then (gSums_.l0 k (wrap64 (Int.tmod a0 5)) (wrap64 (1 + (wrap64 (Int.tmod a1 4)))) (wrap64 (1 + (wrap64 (Int.tmod a2 2)))) t961 t964 (List.replicate (wrap64 (1 + (wrap64 (Int.tmod a1 4))) : Int).toNat 0) 0) else (gSums_.j1 k (wrap64 (Int.tmod a0 5)) (wrap64 (1 + (wrap64 (Int.tmod a1 4)))) (wrap64 (1 + (wrap64 (Int.tmod a2 2)))) t961 t964 (cpyAt (List.replicate (wrap64 (1 + (wrap64 (Int.tmod a1 4))) : Int).toNat 0) 0 l5))) else (none)) else (none)))
set_option maxHeartbeats 8000000 in
set_option maxRecDepth 100000 in
theorem gSums_.calls (k : Nat) (a0 : Int) (a1 : Int) (a2 : Int) (A3 : Option Addr) (c3 : Nat) (l3 : List (List Int)) (A4 : Option Addr) (c4 : Nat) (l4 : List (List Int)) (A5 : Option Addr) (c5 : Nat) (l5 : List Int) (a6 : Bool) (r : Bool) (w : World) (hG : Fld w) (hr3 : Kd.C (Kd.slice 48 (Kd.int .u64)) w A3 l3.length l3) (hc3 : l3.length ≤ c3) (hr4 : Kd.C (Kd.slice 48 (Kd.int .u64)) w A4 l4.length l4) (hc4 : l4.length ≤ c4) (hr5 : Kd.C (Kd.int .u64) w A5 l5.length l5) (hc5 : l5.length ≤ c5) (h : gSums_.f k a0 a1 a2 l3 l4 l5 a6 = some r) :
  Calls Tryd.prog 6 #[.int .u8 a0, .int .u8 a1, .int .u8 a2, .slice A3 l3.length c3, .slice A4 l4.length c4, .slice A5 l5.length c5, .bool a6] w fun e w' => e = .returned (.bool r) ∧ Below w.heap.size w w' := by
 have hu26 := Tryd.underlying26
 have HG := ak hG
 clear hG
 have HR3 := ak hr3
 have HC3 := ak hc3
 clear hr3 hc3
 have HR4 := ak hr4
 have HC4 := ak hc4
 clear hr4 hc4
 have HR5 := ak hr5
 have HC5 := ak hc5
 clear hr5 hc5
 have HB := ak (Below.refl w.heap.size w)
 have H := h
 clear h
 unfold gSums_.f at H
 revert H
 refine bd_ fun t961 A8 H => ?_
 revert H
 refine bd_ fun t964 A9 H => ?_
 obtain ⟨ji10, hji10⟩ : ∃ j_ : Int, (wrap64 (1 + (wrap64 (Int.tmod a1 4)))) = j_ := ⟨_, rfl⟩
 first | rw [hji10] at H | simp only [hji10] at H
 (try rw [hji10] at A8)
 (try rw [hji10] at A9)
 have hji10w : (IntKind.i64.wrap (1 + (wrap64 (Int.tmod a1 4)))) = ji10 := (i64_w _).trans hji10
 obtain ⟨c11, H⟩ : (0 ≤ (ji10)) ∧ _ := it_ H
 have c11b0 := eq_true c11
 have c11b1 := decide_eq_true c11
 clear c11
 obtain ⟨c12, H⟩ : ((ji10 : Int).toNat ≤ 35184372088832) ∧ _ := it_ H
 have c12b0 := eq_true c12
 have c12b1 := decide_eq_true c12
 clear c12
 obtain ⟨y967, hy967⟩ : ∃ y_ : List Int, y_ = (List.replicate (ji10 : Int).toNat 0) := ⟨_, rfl⟩
 replace H : (if a6 = true then (gSums_.l0 k (wrap64 (Int.tmod a0 5)) ji10 (wrap64 (1 + (wrap64 (Int.tmod a2 2)))) t961 t964 (List.replicate (ji10 : Int).toNat 0) 0) else (gSums_.j1 k (wrap64 (Int.tmod a0 5)) ji10 (wrap64 (1 + (wrap64 (Int.tmod a2 2)))) t961 t964 (cpyAt y967 0 l5))) = some r := by first | (rw [hy967]; with_reducible exact H) | (have H2_ := (Option.bind_some _ _).symm.trans H; rw [hy967]; with_reducible exact H2_) | (have H2_ := (Option.bind_some _ _).symm.trans H; with_reducible exact H2_) | with_reducible exact H | (rw [hy967]; exact H) | exact H
 have Ny967 := ak hy967
 clear hy967
 obtain ⟨y970, hy970⟩ : ∃ y_ : List Int, y_ = (cpyAt y967 0 l5) := ⟨_, rfl⟩
 first | rw [Option.bind_some, ← hy970] at H | rw [← hy970] at H
 have Ny970 := ak hy970
 clear hy970
 have HC13 := ak H
 clear H
 go_enter Tryd.func6, Tryd.ntmps6
 go_upto_if 62 with (first | ((with_reducible refine gate_callee (f := 20) rfl ?_); refine gl_ (some 52) Tryd.func20 #[.slice A3 l3.length c3, .int .i64 (wrap64 (Int.tmod a0 5)), .int .i64 (wrap64 (1 + (wrap64 (Int.tmod a2 2))))] ?_; (with_reducible refine (a11list.calls k _ _ l3 (wrap64 (Int.tmod a0 5)) (wrap64 (1 + (wrap64 (Int.tmod a2 2)))) t961 _ ?side1 ?side2 A8.out).mono ?_); (case side1 => exact cU_ HR3.out); (case side2 => exact HC3.out); rintro e w14 ⟨v962, rfl, ho0, hb⟩; refine ⟨_, rfl, ?_⟩; refine nx2_ (Kd.N_lower (Kd.N_mono (ok' := fun k_ => True) (Kd.S_N (Kd.S_bound ho0)) (fun k_ hk_ => trivial)) (below_size (bU_ HB.out))) (below_step (bU_ HB.out) hb) ?_; clear HB; intro HO963 HB; clear hb ho0) | ((with_reducible refine gate_callee (f := 20) rfl ?_); refine goesL_ (some 56) rfl rfl Tryd.func20 (by kernel_rfl) rfl #[.slice A4 l4.length c4, .int .i64 ji10, .int .i64 (wrap64 (1 + (wrap64 (Int.tmod a2 2))))] rfl (by (try simp only [List.map_toArray, List.map_cons, List.map_nil]); first | done | (simp only [hji10]; rfl) | rfl | (simp only [List.length_drop, List.length_take]; rfl)) ?_; (with_reducible refine (a11list.calls k _ _ l4 ji10 (wrap64 (1 + (wrap64 (Int.tmod a2 2)))) t964 _ ?side1 ?side2 A9.out).mono ?_); (case side1 => exact cU_ (C_below HR4.out HB.out)); (case side2 => exact HC4.out); rintro e w15 ⟨v965, rfl, ho0, hb⟩; refine ⟨_, rfl, ?_⟩; refine nx3_ (Kd.N_elder' (by (with_reducible repeat (first | apply Kd.N_alloc | apply Kd.N_drewN | apply Kd.N_drew)); exact HO963.out) (by first | exact Kd.S_base ho0 | exact Kd.N_base ho0) hb) (Kd.N_lower (Kd.N_mono (ok' := fun k_ => some k_ ≠ (v962 : Value).ownBlock) (Kd.S_N (Kd.S_bound ho0)) (fun k_ hk_ => (fresh' (Kd.N_lt (by (with_reducible repeat (first | apply Kd.N_alloc | apply Kd.N_drewN | apply Kd.N_drew)); exact HO963.out)) k_ hk_.2.1))) (below_size (bU_ HB.out))) (below_step (bU_ HB.out) hb) ?_; clear HO963 HB; intro HO963 HO966 HB; clear hb ho0) | ((with_reducible refine gate_dst (N := 58) rfl ?_); refine R_make (Kd.int .u64) _ 48 rfl (N := 58) rfl 35 _ _ rfl ji10 ?hx ?hy Tryd.underlying35 (.int .u64 0) 8 info48 rfl (by decide) (by omega) 0 (ok := fun _ => True) (okp := fun _ => True) rfl (fun _ hk => hk) trivial od_ (Nat.le_trans (Nat.mul_le_mul_right _ (od_ : ji10.toNat ≤ 35184372088832)) (by omega)) (Below.refl _ _) (Nat.le_refl _) ?_; (case hx => first | rfl | (simp only [hji10]; rfl)); (case hy => first | rfl | (simp only [hji10]; rfl)); intro v968 w16 ho17 hb hg_ hnew_; clear hg_ hnew_; (first | rw [← Ny967.out] at ho17 | (simp only [Int.reduceToNat] at ho17; rw [← Ny967.out] at ho17)); refine nx4_ (Kd.N_elder' (by (with_reducible repeat (first | apply Kd.N_alloc | apply Kd.N_drewN | apply Kd.N_drew)); exact HO963.out) (R_base ho17) hb) (Kd.N_elder' (by (with_reducible repeat (first | apply Kd.N_alloc | apply Kd.N_drewN | apply Kd.N_drew)); exact HO966.out) (R_base ho17) hb) (R_lower ho17 (below_size (bU_ HB.out))) (below_step (bU_ HB.out) hb) ?_; clear HO963 HO966 HB; intro HO963 HO966 HO969 HB; clear hb ho17; obtain ⟨Ao19, co19, eo19⟩ := R_slice HO969.out; subst eo19) | ((with_reducible refine gate_builtin (b := .copy) (xs := #[.tmp 59, .tmp 60]) rfl ?_); skip; refine copy_own_ .u64 (w0 := w) w.heap.size rfl (.tmp 59) (.tmp 60) 35 35 48 rfl Tryd.underlying35 (show (Tryd.prog.info? 48).map (·.size) = some 1 by kernel_rfl) (.slice Ao19 y967.length co19) y967 l5 _ _ _ (fun _ => True) rfl rfl ?aO ?aR (fun _ _ h => h) ?aF ?aB ?aS ?_; (case aR => exact cU_ (C_below HR5.out HB.out)); (case aB => exact (bU_ HB.out)); (case aF => exact (fun _ _ => trivial)); (case aO => exact (rU_ HO969.out)); (case aS => exact (below_size (bU_ HB.out))); intro w18 ho hb hg hat; rw [← Ny970.out] at ho; refine nx4_ (Kd.N_afterv (ok := (fun k_ => some k_ ≠ (v965 : Value).ownBlock)) (by (with_reducible repeat (first | apply Kd.N_alloc | apply Kd.N_drewN | apply Kd.N_drew)); exact Kd.N_mono HO963.out (fun _ hk => ⟨hk.1.2, hk.2⟩)) hg (hat.imp_right False.elim)) (Kd.N_afterv (ok := (fun k_ => some k_ ≠ (v962 : Value).ownBlock)) (by (with_reducible repeat (first | apply Kd.N_alloc | apply Kd.N_drewN | apply Kd.N_drew)); exact HO966.out) hg (hat.imp_right False.elim)) (hb) (ho) ?_; clear HO963 HO966 HB HO969; intro HO963 HO966 HB HO971; clear ho hb hg hat))
 (try simp only [Act.put, s1_, s2_, s3_])
 go_cut [20] (fun v20 wc => ∃ (kq : Nat) (x18_12 : List (List Int)) (x20_12 : List Int), Aside0 (gSums_.j1 kq (wrap64 (Int.tmod a0 5)) ji10 (wrap64 (1 + (wrap64 (Int.tmod a2 2)))) x18_12 t964 x20_12 = some r) ∧ Aside0 (kq ≤ k) ∧ Aside0 (Kd.N (Kd.slice 48 (Kd.int .u64)) 35 wc w.heap.size (fun k_ => some k_ ≠ (v965 : Value).ownBlock ∧ some k_ ≠ (v20 : Value).ownBlock) v962 x18_12) ∧ Aside0 (Kd.N (Kd.slice 48 (Kd.int .u64)) 35 wc w.heap.size (fun k_ => some k_ ≠ (v962 : Value).ownBlock ∧ some k_ ≠ (v20 : Value).ownBlock) v965 t964) ∧ Aside0 (Kd.R (Kd.int .u64) 48 wc w.heap.size (fun _ => True) v20 x20_12) ∧ Aside0 (Below w.heap.size w wc))
 case first =>
  have H := HC13.out
  clear HC13
  by_cases c20 : a6 = true
  ·subst c20
   rw [if_pos rfl] at H
   obtain ⟨y972, hy972⟩ : ∃ y_ : List Int, y_ = (List.replicate (ji10 : Int).toNat 0) := ⟨_, rfl⟩
   first | rw [Option.bind_some, ← hy972] at H | rw [← hy972] at H
   have Ny972 := ak hy972
   clear hy972
   have H' := ak H
   clear H
   go_wp2_with (first | ((with_reducible refine gate_dst (N := 64) rfl ?_); refine R_make (Kd.int .u64) _ 48 rfl (N := 64) rfl 35 _ _ rfl ji10 ?hx ?hy Tryd.underlying35 (.int .u64 0) 8 info48 rfl (by decide) (by omega) 0 (ok := fun _ => True) (okp := fun _ => True) rfl (fun _ hk => hk) trivial od_ (Nat.le_trans (Nat.mul_le_mul_right _ (od_ : ji10.toNat ≤ 35184372088832)) (by omega)) (Below.refl _ _) (Nat.le_refl _) ?_; (case hx => first | rfl | (simp only [hji10]; rfl)); (case hy => first | rfl | (simp only [hji10]; rfl)); intro v973 w21 ho22 hb hg_ hnew_; clear hg_ hnew_; (first | rw [← Ny972.out] at ho22 | (simp only [Int.reduceToNat] at ho22; rw [← Ny972.out] at ho22)); refine nx5_ (Kd.N_elder' (by (with_reducible repeat (first | apply Kd.N_alloc | apply Kd.N_drewN | apply Kd.N_drew)); exact HO963.out) (R_base ho22) hb) (Kd.N_elder' (by (with_reducible repeat (first | apply Kd.N_alloc | apply Kd.N_drewN | apply Kd.N_drew)); exact HO966.out) (R_base ho22) hb) (R_elder' (rU_ HO971.out) (R_base ho22) hb) (R_lower (R_new' ho22 (R_lt (rU_ HO971.out))) (below_size (bU_ HB.out))) (below_step (bU_ HB.out) hb) ?_; clear HO963 HO966 HO971 HB; intro HO963 HO966 HO971 HO974 HB; clear hb ho22))
   go_loopg [21] k (fun kq v21 w' => ∃ (x18_1 : List (List Int)) (x20_1 : List Int) (x21_1 : Int), v21 = .int .i64 x21_1 ∧ Aside0 (gSums_.l0 kq (wrap64 (Int.tmod a0 5)) ji10 (wrap64 (1 + (wrap64 (Int.tmod a2 2)))) x18_1 t964 x20_1 x21_1 = some r) ∧ Aside0 (kq ≤ k) ∧ Aside0 (Kd.N (Kd.slice 48 (Kd.int .u64)) 35 w' w.heap.size (fun k_ => some k_ ≠ (v965 : Value).ownBlock ∧ some k_ ≠ (v973 : Value).ownBlock) v962 x18_1) ∧ Aside0 (Kd.N (Kd.slice 48 (Kd.int .u64)) 35 w' w.heap.size (fun k_ => some k_ ≠ (v962 : Value).ownBlock ∧ some k_ ≠ (v973 : Value).ownBlock) v965 t964) ∧ Aside0 (Kd.R (Kd.int .u64) 48 w' w.heap.size (fun _ => True) v973 x20_1) ∧ Aside0 (Below w.heap.size w w'))
   case atStart => exact ⟨(t961), (y972), (0), gb_, H', ⟨Nat.le_refl _⟩, ⟨by (with_reducible repeat (first | apply Kd.N_alloc | apply Kd.N_drewN | apply Kd.N_drew)); exact Kd.N_mono HO963.out (fun _ hk => ⟨hk.1.1, hk.2⟩)⟩, ⟨by (with_reducible repeat (first | apply Kd.N_alloc | apply Kd.N_drewN | apply Kd.N_drew)); exact Kd.N_mono HO966.out (fun _ hk => ⟨hk.1.1, hk.2⟩)⟩, ⟨R_mono (rU_ HO974.out) (fun _ hk => trivial)⟩, ⟨bU_ HB.out⟩⟩
   case round =>
    clear H'
    (try clear c1); (try clear c2); (try clear p2); (try clear c3); (try clear c4); (try clear c5); (try clear c6); (try clear p6); (try clear c11); (try clear c11b0); (try clear c11b1); (try clear c12); (try clear c12b0); (try clear c12b1); (try clear c20)
    obtain ⟨x18_1, x20_1, x21_1, rfl, HA, HK1, HO_18, HO_19, HO_20, HB⟩ := hrel
    cases gk with
    | zero => exact absurd HA.out (by simp [gSums_.l0])
    | succ k1 =>
     have H := HA.out
     clear HA
     simp only [gSums_.l0] at H
     by_cases c23 : x21_1 < (wrap64 (Int.tmod a0 5))
     ·rw [if_pos c23] at H
      have c23b0 := decide_eq_true c23
      clear c23
      (first | rw [c23b0] | (simp only [i64_w, i32_w]; rw [c23b0]) | rw [c23b1] | skip)
      obtain ⟨c24, H⟩ : (0 ≤ x21_1) ∧ _ := it_ H
      have c24b0 := decide_eq_true c24
      clear c24
      obtain ⟨c25, H⟩ : (x21_1 < (x18_1.length : Int)) ∧ _ := it_ H
      have c25b0 := decide_eq_true c25
      clear c25
      obtain ⟨c26, H⟩ : (0 < ((rd_L3 x18_1 x21_1).length : Int)) ∧ _ := it_ H
      have c26b0 := decide_eq_true c26
      have c26b1 : decide (0 < (rd_L3 x18_1 x21_1).length) = true := decide_eq_true (by omega)
      clear c26
      by_cases c27 : ji10 = 0
      ·rw [if_pos c27] at H
       exact absurd H (by simp)
      rw [if_neg c27] at H
      have c27b0 := beq_eq_false_iff_ne.mpr c27
      have c27b1 := bne_iff_ne.mpr c27
      obtain ⟨ji28, hji28⟩ : ∃ j_ : Int, (Int.tmod (wrap64 (rd (rd_L3 x18_1 x21_1) 0)) ji10) = j_ := ⟨_, rfl⟩
      first | rw [hji28] at H | simp only [hji28] at H
      obtain ⟨c29, H⟩ : (0 ≤ (ji28)) ∧ _ := it_ H
      have c29b0 := decide_eq_true c29
      clear c29
      obtain ⟨c30, H⟩ : ((ji28) < (t964.length : Int)) ∧ _ := it_ H
      have c30b0 := decide_eq_true c30
      clear c30
      obtain ⟨y978, hy978⟩ : ∃ y_ : List (List Int), y_ = (x18_1.set (x21_1 : Int).toNat (rd_L3 t964 (ji28))) := ⟨_, rfl⟩
      replace H : (if (ji28) < (x20_1.length : Int) then (gSums_.l0 k1 (wrap64 (Int.tmod a0 5)) ji10 (wrap64 (1 + (wrap64 (Int.tmod a2 2)))) y978 t964 (x20_1.set ((ji28) : Int).toNat (IntKind.u64.wrap ((rd x20_1 (ji28)) + 1))) (wrap64 (x21_1 + 1))) else (none)) = some r := by first | (rw [hy978]; with_reducible exact H) | (have H2_ := (Option.bind_some _ _).symm.trans H; rw [hy978]; with_reducible exact H2_) | (have H2_ := (Option.bind_some _ _).symm.trans H; with_reducible exact H2_) | with_reducible exact H | (rw [hy978]; exact H) | exact H
      have Ny978 := ak hy978
      clear hy978
      obtain ⟨c32, H⟩ : ((ji28) < (x20_1.length : Int)) ∧ _ := it_ H
      have c32b0 := decide_eq_true c32
      clear c32
      obtain ⟨y980, hy980⟩ : ∃ y_ : List Int, y_ = (x20_1.set ((ji28) : Int).toNat (IntKind.u64.wrap ((rd x20_1 (ji28)) + 1))) := ⟨_, rfl⟩
      first | rw [Option.bind_some, ← hy980] at H | rw [← hy980] at H
      have Ny980 := ak hy980
      clear hy980
      have H' := ak H
      clear H
      obtain ⟨Ao34, co34, eo34⟩ := Kd.N_slice HO_18.out
      subst eo34
      have p975 : 0 ≤ (x21_1 : Int) := od_
      have q975 : x21_1 < (x18_1.length : Int) := od_
      obtain ⟨ad975, A975_0, c975_0, e975, hx975_0, hl975_0, hi975_0⟩ := at_L3 (Kd.N_reads' HO_18.out).2.2 x21_1 p975 q975
      cases e975
      obtain ⟨ce975, hce975, hMe975, hcc975⟩ := Kd.N_get HO_18.out [] x21_1 p975 (by first | exact q975 | exact od_ | (have e_ := (Kd.N_reads' HO_18.out).1; omega))
      obtain ⟨ua975_0, uc975_0, rfl, ul975_0, ge975_0⟩ := Kd.FK_slice_open hMe975
      have hv975_0 := hcc975 0 _ rfl
      rw [Nat.add_zero, show ((Kd.slice 48 (Kd.int .u64))).sz = 1 from rfl, Nat.mul_one] at hv975_0
      replace hv975_0 := Option.some.inj (hv975_0.symm.trans hx975_0)
      injection hv975_0 with hva_ hvn_ hvc_
      rw [hva_] at ge975_0
      rw [hvc_] at ul975_0
      have HL975_0 := ak (show Kd.V (Kd.int .u64) 48 _ w.heap.size _ _ (rd_L3 x18_1 x21_1) from V_mk ul975_0 ge975_0)
      clear hva_ hvn_ hvc_ ge975_0 ul975_0
      clear hcc975 hce975
      have HR975_0 := ak hi975_0
      have HC975_0 := ak hl975_0
      clear hi975_0 hl975_0
      replace p975 := eq_true p975
      replace q975 := eq_true q975
      have p976 : 0 ≤ (0 : Int) := (by omega)
      have q976 : 0 < ((rd_L3 x18_1 x21_1).length : Int) := od_
      obtain ⟨ad976, e976, hx976_0⟩ := Kd.at_int (by repeat (first | (with_reducible exact HR975_0.out) | (with_reducible refine Kd.C_alloc ?_ _) | (with_reducible refine Kd.C_drewN ?_ _) | (with_reducible refine Kd.C_drew ?_) | exact HR975_0.out)) 0 p976 q976
      cases e976
      have qi976 : (0 < (rd_L3 x18_1 x21_1).length) = True := eq_true (by omega)
      (try rw [show ((0 : Int)).toNat = 0 from rfl] at hx976_0)
      (try rw [Addr.add_zero'] at hx976_0)
      replace p976 := eq_true p976
      replace q976 := eq_true q976
      obtain ⟨Ao35, co35, eo35⟩ := Kd.N_slice HO_19.out
      subst eo35
      have p977 : 0 ≤ ((ji28) : Int) := od_
      have q977 : (ji28) < (t964.length : Int) := od_
      obtain ⟨ad977, A977_0, c977_0, e977, hx977_0, hl977_0, hi977_0⟩ := at_L3 (Kd.N_reads' HO_19.out).2.2 (ji28) p977 q977
      cases e977
      obtain ⟨ce977, hce977, hMe977, hcc977⟩ := Kd.N_get HO_19.out [] (ji28) p977 (by first | exact q977 | exact od_ | (have e_ := (Kd.N_reads' HO_19.out).1; omega))
      obtain ⟨ua977_0, uc977_0, rfl, ul977_0, ge977_0⟩ := Kd.FK_slice_open hMe977
      have hv977_0 := hcc977 0 _ rfl
      rw [Nat.add_zero, show ((Kd.slice 48 (Kd.int .u64))).sz = 1 from rfl, Nat.mul_one] at hv977_0
      replace hv977_0 := Option.some.inj (hv977_0.symm.trans hx977_0)
      injection hv977_0 with hva_ hvn_ hvc_
      rw [hva_] at ge977_0
      rw [hvc_] at ul977_0
      have HL977_0 := ak (show Kd.V (Kd.int .u64) 48 _ w.heap.size _ _ (rd_L3 t964 (ji28)) from V_mk ul977_0 ge977_0)
      clear hva_ hvn_ hvc_ ge977_0 ul977_0
      clear hcc977 hce977
      have HR977_0 := ak hi977_0
      have HC977_0 := ak hl977_0
      clear hi977_0 hl977_0
      replace p977 := eq_true p977
      replace q977 := eq_true q977
      have p31 : 0 ≤ (x21_1 : Int) := od_
      have q31 : (x21_1 : Int) < ((x18_1.length : Int) : Int) := od_
      obtain ⟨go31, co31, eo31, gb31, gl31, cl31, HG31⟩ := Kd.N_form HO_18.out (by omega)
      (first | cases eo31 | (injection eo31 with ea_ en_ ec_; (first | subst ea_ | (injection ea_ with ea_; subst ea_)); subst ec_; clear en_))
      have GB31 := ak gb31
      have GG31 := ak HG31
      clear gb31 gl31 HG31
      (first | simp only [add_plain] at hx975_0 | skip)
      obtain ⟨ce31, hcl31, hM31, hcc31, hfr31⟩ := Kd.N_elem HO_18.out [] (x21_1 : Int) p31 q31
      obtain ⟨ua31_0, uc31_0, rfl, ul31_0, ge31_0⟩ := Kd.FK_slice_open hM31
      have hx31_0 := hcc31 0 _ rfl
      have hf31_0 := hfr31 0
      (try simp only [show ((Kd.slice 48 (Kd.int .u64))).sz = 1 from rfl, Nat.mul_one, Nat.add_zero] at hx31_0)
      (try simp only [show ((Kd.slice 48 (Kd.int .u64))).sz = 1 from rfl, Nat.mul_one, Nat.add_zero] at hf31_0)
      clear hcl31 hcc31 hfr31; (try clear hM31)
      replace p31 := eq_true p31
      replace q31 := eq_true q31
      have HX36 := ak (show Kd.N (Kd.slice 48 (Kd.int .u64)) 35 wr w.heap.size (fun k_ => some k_ ≠ (.slice (some ad977) t964.length co35 : Value).ownBlock ∧ some k_ ≠ (v973 : Value).ownBlock) (.slice (some ⟨go31, 0, none⟩) x18_1.length co34) x18_1 from (by (with_reducible repeat (first | apply Kd.N_alloc | apply Kd.N_drewN | apply Kd.N_drew)); exact HO_18.out))
      obtain ⟨ce36, hcl36, hM36, hcc36, hfr36⟩ := Kd.N_elem HX36.out [] (x21_1 : Int) od_ (by have h_ : (x21_1 : Int) < ((x18_1.length : Int) : Int) := od_; first | exact h_ | (have e_ := (Kd.N_reads' HO_18.out).1; omega) | simpa using h_)
      obtain ⟨ua36_0, uc36_0, rfl, ul36_0, ge36_0⟩ := Kd.FK_slice_open hM36
      have HP36 := Kd.N_seg HX36.out (x21_1 : Int) od_ (by have h_ : (x21_1 : Int) < ((x18_1.length : Int) : Int) := od_; first | exact h_ | (have e_ := (Kd.N_reads' HO_18.out).1; omega) | simpa using h_) (seg := [.slice A977_0 (rd_L3 t964 (ji28)).length c977_0]) (j := 0) hcl36 hcc36 (show 1 ≤ 1 from by decide) (x' := rd_L3 t964 (ji28)) (Kd.FK_slice_mk (V_reads' (V_mono (ok' := (fun k_ => ((fun k_ => some k_ ≠ (.slice (some ad977) t964.length co35 : Value).ownBlock ∧ some k_ ≠ (v973 : Value).ownBlock)) k_ ∧ k_ ≠ go31)) (HL977_0.out) (fun k_ hk => ⟨⟨hk.2, hk.1.2⟩, fun e_ => (hk.1.1) (by rw [e_]; rfl)⟩))).2.1 (Kd.V_F (e := 35) (base := w.heap.size) (V_mono (ok' := (fun k_ => ((fun k_ => some k_ ≠ (.slice (some ad977) t964.length co35 : Value).ownBlock ∧ some k_ ≠ (v973 : Value).ownBlock)) k_ ∧ k_ ≠ go31)) (HL977_0.out) (fun k_ hk => ⟨⟨hk.2, hk.1.2⟩, fun e_ => (hk.1.1) (by rw [e_]; rfl)⟩)))) (fun _ hk => hk)
      have hx36_0 := hcc36 0 _ rfl
      (try simp only [show ((Kd.slice 48 (Kd.int .u64))).sz = 1 from rfl, Nat.mul_one, Nat.add_zero] at hx36_0)
      have hf36_0 := hfr36 0
      (try simp only [show ((Kd.slice 48 (Kd.int .u64))).sz = 1 from rfl, Nat.mul_one, Nat.add_zero] at hf36_0)
      clear hcl36 hcc36 hfr36; (try clear hM36)
      (try simp only [show ((Kd.slice 48 (Kd.int .u64))).sz = 1 from rfl, Nat.mul_one, Nat.add_zero] at HP36)
      (try simp only [show ((Kd.slice 48 (Kd.int .u64))).sz = 1 from rfl, Nat.mul_one, Nat.add_zero] at HP36)
      go_wp2_with (first | ((with_reducible refine gate_store (t := 35) (p := 85) rfl ?_); refine store_event (t := 35) (p := 85) (v := ?vo_w37) (w1 := (wr.setCell ⟨go31, (x21_1 : Int).toNat, none⟩ (.slice A977_0 (rd_L3 t964 (ji28)).length c977_0))) ?hg ?ho ?hn ?hr ?_; (case ho => rfl); (case hg => rfl); (case hn => rfl); (case hr => first | (go_simp; done) | (go_simp; rfl)); intro w37 hw; have hg : wr.grownBy w37 (some go31) := (by rw [hw]; exact HP36.2); have hp_ : Kd.N (Kd.slice 48 (Kd.int .u64)) 35 w37 w.heap.size (fun k_ => some k_ ≠ (.slice (some ad977) t964.length co35 : Value).ownBlock ∧ some k_ ≠ (v973 : Value).ownBlock) (.slice (some ⟨go31, 0, none⟩) x18_1.length co34) y978 := (by rw [hw, Ny978.out]; exact HP36.1); clear HP36; refine nx6_ (hp_) (Kd.N_afterv (v := (.slice (some ⟨go31, 0, none⟩) x18_1.length co34)) (v1 := (.slice (some ⟨go31, 0, none⟩) x18_1.length co34)) (ok := (fun k_ => some k_ ≠ (v973 : Value).ownBlock)) (by (with_reducible repeat (first | apply Kd.N_alloc | apply Kd.N_drewN | apply Kd.N_drew)); exact Kd.N_mono HO_19.out (fun _ hk => ⟨hk.2, hk.1⟩)) hg (.inl rfl)) (Kd.R_over' (v := (.slice (some ⟨go31, 0, none⟩) x18_1.length co34)) (rU_ HO_20.out) (Kd.N_typed HO_18.out) (by decide) hg) (Kd.V_afterv (v := (.slice (some ⟨go31, 0, none⟩) x18_1.length co34)) (v1 := (.slice (some ⟨go31, 0, none⟩) x18_1.length co34)) (ok := (fun k_ => some k_ ≠ (.slice (some ad977) t964.length co35 : Value).ownBlock ∧ some k_ ≠ (v973 : Value).ownBlock)) (vU_ HL975_0.out) hg (.inl rfl)) (Kd.V_afterv (v := (.slice (some ⟨go31, 0, none⟩) x18_1.length co34)) (v1 := (.slice (some ⟨go31, 0, none⟩) x18_1.length co34)) (ok := (fun k_ => some k_ ≠ (.slice (some ad977) t964.length co35 : Value).ownBlock ∧ some k_ ≠ (v973 : Value).ownBlock)) (by (with_reducible repeat (first | apply Kd.V_alloc | apply Kd.V_drewN | apply V_drew)); exact V_mono HL977_0.out (fun _ hk => ⟨⟨hk.2, hk.1.2⟩, hk.1.1⟩)) hg (.inl rfl)) ((by rw [hw]; exact below_set (HB.out) GB31.out : Below w.heap.size w w37)) ?_; clear HO_18 HO_19 HO_20 HL975_0 HL977_0 HB; intro HO_18 HO_19 HO_20 HL975_0 HL977_0 HB; clear hg hw hp_; obtain ⟨Ao39, co39, eo39⟩ := R_slice HO_20.out; subst eo39; have pfr38 : 0 ≤ ((ji28) : Int) := od_; have qfr38 : ((ji28) : Int) < ((x20_1.length : Int) : Int) := od_; obtain ⟨gofr38, cofr38, eofr38, gbfr38, glfr38, clfr38, HGfr38⟩ := Kd.R_form HO_20.out (by omega); (first | cases eofr38 | (injection eofr38 with ea_ en_ ec_; (first | subst ea_ | (injection ea_ with ea_; subst ea_)); subst ec_; clear en_)); have GBfr38 := ak gbfr38; have GGfr38 := ak HGfr38; clear gbfr38 glfr38 HGfr38; clear pfr38 qfr38; have p979 : 0 ≤ ((ji28) : Int) := od_; have q979 : (ji28) < (x20_1.length : Int) := od_; obtain ⟨ad979, e979, hx979_0⟩ := Kd.at_int (R_reads' HO_20.out).2.2 (ji28) p979 q979; obtain rfl : (⟨gofr38, 0, none⟩ : Addr) = ad979 := (by injection e979); (first | simp only [add_plain] at hx979_0 | simp only [add_at] at hx979_0 | simp only [Addr.add, Nat.zero_add] at hx979_0 | skip); replace p979 := eq_true p979; replace q979 := eq_true q979; have p33 : 0 ≤ ((ji28) : Int) := od_; have q33 : ((ji28) : Int) < ((x20_1.length : Int) : Int) := od_; obtain ⟨hx33_0, hf33_0⟩ := Kd.R_celln 0 HO_20.out ((ji28) : Int) p33 q33; replace p33 := eq_true p33; replace q33 := eq_true q33; obtain ⟨hy40_, hz40_⟩ := Kd.R_celln 0 HO_20.out ((ji28) : Int) od_ od_; have HP40 := Kd.R_putg HO_20.out ((ji28) : Int) (IntKind.u64.wrap ((rd x20_1 (ji28)) + 1))) | ((with_reducible refine gate_store (t := 48) (p := 91) rfl ?_); refine store_event (t := 48) (p := 91) (v := ?vo_w41) (w1 := (w37.setCell ⟨gofr38, ((ji28) : Int).toNat, none⟩ (.int .u64 (IntKind.u64.wrap ((rd x20_1 (ji28)) + 1))))) ?hg ?ho ?hn ?hr ?_; (case ho => rfl); (case hg => rfl); (case hn => rfl); (case hr => first | (go_simp; done) | (go_simp; rfl)); intro w41 hw; have hg : w37.grownBy w41 (some gofr38) := (by rw [hw]; exact HP40.2); have hp_ : Kd.R (Kd.int .u64) 48 w41 w.heap.size (fun _ => True) (.slice (some ⟨gofr38, 0, none⟩) x20_1.length co39) y980 := (by rw [hw, Ny980.out]; exact HP40.1); clear HP40; refine nx6_ (Kd.N_afterv (v := (.slice (some ⟨gofr38, 0, none⟩) x20_1.length co39)) (v1 := (.slice (some ⟨gofr38, 0, none⟩) x20_1.length co39)) (ok := (fun k_ => some k_ ≠ (.slice (some ad977) t964.length co35 : Value).ownBlock)) (by (with_reducible repeat (first | apply Kd.N_alloc | apply Kd.N_drewN | apply Kd.N_drew)); exact HO_18.out) hg (.inl rfl)) (Kd.N_afterv (v := (.slice (some ⟨gofr38, 0, none⟩) x20_1.length co39)) (v1 := (.slice (some ⟨gofr38, 0, none⟩) x20_1.length co39)) (ok := (fun k_ => some k_ ≠ (.slice (some ⟨go31, 0, none⟩) x18_1.length co34 : Value).ownBlock)) (by (with_reducible repeat (first | apply Kd.N_alloc | apply Kd.N_drewN | apply Kd.N_drew)); exact Kd.N_mono HO_19.out (fun _ hk => ⟨hk.2, hk.1⟩)) hg (.inl rfl)) (hp_) (Kd.V_afterv (v := (.slice (some ⟨gofr38, 0, none⟩) x20_1.length co39)) (v1 := (.slice (some ⟨gofr38, 0, none⟩) x20_1.length co39)) (ok := (fun k_ => some k_ ≠ (.slice (some ⟨go31, 0, none⟩) x18_1.length co34 : Value).ownBlock ∧ some k_ ≠ (.slice (some ad977) t964.length co35 : Value).ownBlock)) (by (with_reducible repeat (first | apply Kd.V_alloc | apply Kd.V_drewN | apply V_drew)); exact V_mono HL975_0.out (fun _ hk => ⟨⟨hk.2, hk.1.1⟩, hk.1.2⟩)) hg (.inl rfl)) (Kd.V_afterv (v := (.slice (some ⟨gofr38, 0, none⟩) x20_1.length co39)) (v1 := (.slice (some ⟨gofr38, 0, none⟩) x20_1.length co39)) (ok := (fun k_ => some k_ ≠ (.slice (some ⟨go31, 0, none⟩) x18_1.length co34 : Value).ownBlock ∧ some k_ ≠ (.slice (some ad977) t964.length co35 : Value).ownBlock)) (by (with_reducible repeat (first | apply Kd.V_alloc | apply Kd.V_drewN | apply V_drew)); exact V_mono HL977_0.out (fun _ hk => ⟨⟨hk.2, hk.1.1⟩, hk.1.2⟩)) hg (.inl rfl)) ((by rw [hw]; exact below_set (HB.out) GBfr38.out : Below w.heap.size w w41)) ?_; clear HO_18 HO_19 HO_20 HL975_0 HL977_0 HB; intro HO_18 HO_19 HO_20 HL975_0 HL977_0 HB; clear hg hw hp_))
      go_roundg k1
      case measure => have := HK1.out; omega
      case rel => exact ⟨(y978), (y980), (wrap64 (x21_1 + 1)), gb_, H', ⟨by have := HK1.out; omega⟩, ⟨by (with_reducible repeat (first | apply Kd.N_alloc | apply Kd.N_drewN | apply Kd.N_drew)); exact HO_18.out⟩, ⟨by (with_reducible repeat (first | apply Kd.N_alloc | apply Kd.N_drewN | apply Kd.N_drew)); exact HO_19.out⟩, ⟨rU_ HO_20.out⟩, ⟨bU_ HB.out⟩⟩
     rw [if_neg c23] at H
     have c23b0 := decide_eq_false c23
     clear c23
     (first | rw [c23b0] | (simp only [i64_w, i32_w]; rw [c23b0]) | rw [c23b1] | skip)
     have H' := ak H
     clear H
     go_wp2
     go_meet
     case rel => exact ⟨_, (x18_1), (x20_1), H', ⟨by have := HK1.out; first | omega | exact Nat.le_refl _⟩, ⟨by (with_reducible repeat (first | apply Kd.N_alloc | apply Kd.N_drewN | apply Kd.N_drew)); exact HO_18.out⟩, ⟨by (with_reducible repeat (first | apply Kd.N_alloc | apply Kd.N_drewN | apply Kd.N_drew)); exact HO_19.out⟩, ⟨rU_ HO_20.out⟩, ⟨bU_ HB.out⟩⟩
  replace c20 := Bool.eq_false_iff.mpr c20
  subst c20
  rw [if_neg (show ¬ (false = true) by decide)] at H
  have H' := ak H
  clear H
  go_wp2
  go_meet
  case rel => exact ⟨_, (t961), (y970), H', ⟨by first | omega | exact Nat.le_refl _⟩, ⟨by (with_reducible repeat (first | apply Kd.N_alloc | apply Kd.N_drewN | apply Kd.N_drew)); exact HO963.out⟩, ⟨by (with_reducible repeat (first | apply Kd.N_alloc | apply Kd.N_drewN | apply Kd.N_drew)); exact HO966.out⟩, ⟨rU_ HO971.out⟩, ⟨bU_ HB.out⟩⟩
 case rest =>
  clear HC13
  (try clear c1); (try clear c2); (try clear p2); (try clear c3); (try clear p3); (try clear q3); (try clear hx3); (try clear c4); (try clear c5); (try clear c6); (try clear p6); (try clear c9); (try clear p9); (try clear q9); (try clear hx9); (try clear qi9); (try clear c11); (try clear c11b0); (try clear c11b1); (try clear c12); (try clear c12b0); (try clear c12b1); (try clear c20); (try clear c23); (try clear c23b0); (try clear c23b1); (try clear c24); (try clear c24b0); (try clear c25); (try clear c25b0); (try clear c26); (try clear c26b0); (try clear c26b1); (try clear c27); (try clear c27b0); (try clear c27b1); (try clear c29); (try clear c29b0); (try clear c30); (try clear c30b0); (try clear c31); (try clear p31); (try clear q31); (try clear hx31); (try clear hf31); (try clear c32); (try clear c32b0); (try clear p33); (try clear q33); (try clear hx33); (try clear hf33); (try clear c36); (try clear hx36); (try clear hf36); (try clear hx31_0); (try clear hx33_0); (try clear hx36_0); (try clear hx975_0); (try clear hx976_0); (try clear hx977_0); (try clear hx979_0); (try clear p975); (try clear p976); (try clear p977); (try clear p979); (try clear q975); (try clear q976); (try clear q977); (try clear q979)
  obtain ⟨kq, x18_12, x20_12, HA, HJ12, HO_18, HO_19, HO_20, HB⟩ := hcut
  as_aux_lemma =>
  cases kq with
  | zero => exact absurd HA.out (by simp [gSums_.j1])
  | succ kj12 =>
   have H := HA.out
   clear HA
   simp only [gSums_.j1] at H
   have H' := ak H
   clear H
   go_wp2
   go_loopg [23, 24] kj12 (fun kq v23 v24 w' => ∃ (x23_2 : Bool) (x24_2 : Int), v23 = .bool x23_2 ∧ v24 = .int .i64 x24_2 ∧ Aside0 (gSums_.l1 kq (wrap64 (Int.tmod a0 5)) ji10 (wrap64 (1 + (wrap64 (Int.tmod a2 2)))) x18_12 t964 x20_12 x23_2 x24_2 = some r) ∧ Aside0 (kq ≤ kj12) ∧ Aside0 (Kd.N (Kd.slice 48 (Kd.int .u64)) 35 w' w.heap.size (fun k_ => some k_ ≠ (v965 : Value).ownBlock ∧ some k_ ≠ (u20 : Value).ownBlock) v962 x18_12) ∧ Aside0 (Kd.N (Kd.slice 48 (Kd.int .u64)) 35 w' w.heap.size (fun k_ => some k_ ≠ (v962 : Value).ownBlock ∧ some k_ ≠ (u20 : Value).ownBlock) v965 t964) ∧ Aside0 (Kd.R (Kd.int .u64) 48 w' w.heap.size (fun _ => True) u20 x20_12) ∧ Aside0 (Below w.heap.size w w'))
   case atStart => exact ⟨(true), (0), gb_, gb_, H', ⟨Nat.le_refl _⟩, ⟨by (with_reducible repeat (first | apply Kd.N_alloc | apply Kd.N_drewN | apply Kd.N_drew)); exact HO_18.out⟩, ⟨by (with_reducible repeat (first | apply Kd.N_alloc | apply Kd.N_drewN | apply Kd.N_drew)); exact HO_19.out⟩, ⟨rU_ HO_20.out⟩, ⟨bU_ HB.out⟩⟩
   case round =>
    clear H'
    (try clear c1); (try clear c2); (try clear p2); (try clear c3); (try clear p3); (try clear q3); (try clear hx3); (try clear c4); (try clear c5); (try clear c6); (try clear p6); (try clear c9); (try clear p9); (try clear q9); (try clear hx9); (try clear qi9); (try clear c11); (try clear c11b0); (try clear c11b1); (try clear c12); (try clear c12b0); (try clear c12b1); (try clear c20); (try clear c23); (try clear c23b0); (try clear c23b1); (try clear c24); (try clear c24b0); (try clear c25); (try clear c25b0); (try clear c26); (try clear c26b0); (try clear c26b1); (try clear c27); (try clear c27b0); (try clear c27b1); (try clear c29); (try clear c29b0); (try clear c30); (try clear c30b0); (try clear c31); (try clear p31); (try clear q31); (try clear hx31); (try clear hf31); (try clear c32); (try clear c32b0); (try clear p33); (try clear q33); (try clear hx33); (try clear hf33); (try clear c36); (try clear hx36); (try clear hf36); (try clear hx31_0); (try clear hx33_0); (try clear hx36_0); (try clear hx975_0); (try clear hx976_0); (try clear hx977_0); (try clear hx979_0); (try clear p975); (try clear p976); (try clear p977); (try clear p979); (try clear q975); (try clear q976); (try clear q977); (try clear q979)
    obtain ⟨x23_2, x24_2, rfl, rfl, HA, HK2, HO_18, HO_19, HO_20, HB⟩ := hrel
    cases gk with
    | zero => exact absurd HA.out (by simp [gSums_.l1])
    | succ k2 =>
     have H := HA.out
     clear HA
     simp only [gSums_.l1] at H
     have HC42 := ak H
     clear H
     go_upto_if 96 with (fail)
     go_cut [] (fun wc => ∃ (kq : Nat), Aside0 (gSums_.j3 kq (wrap64 (Int.tmod a0 5)) ji10 (wrap64 (1 + (wrap64 (Int.tmod a2 2)))) x18_12 t964 x20_12 x23_2 x24_2 = some r) ∧ Aside0 (kq ≤ k2) ∧ Aside0 (Kd.N (Kd.slice 48 (Kd.int .u64)) 35 wc w.heap.size (fun k_ => some k_ ≠ (v965 : Value).ownBlock ∧ some k_ ≠ (u20 : Value).ownBlock) v962 x18_12) ∧ Aside0 (Kd.N (Kd.slice 48 (Kd.int .u64)) 35 wc w.heap.size (fun k_ => some k_ ≠ (v962 : Value).ownBlock ∧ some k_ ≠ (u20 : Value).ownBlock) v965 t964) ∧ Aside0 (Kd.R (Kd.int .u64) 48 wc w.heap.size (fun _ => True) u20 x20_12) ∧ Aside0 (Below w.heap.size w wc))
     case first =>
      have H := HC42.out
      clear HC42
      by_cases c43 : x24_2 < (wrap64 ((wrap64 (Int.tmod a0 5)) + ji10))
      ·rw [if_pos c43] at H
       have c43b0 := decide_eq_true c43
       clear c43
       (first | rw [c43b0] | (simp only [i64_w, i32_w]; rw [c43b0]) | rw [c43b1] | skip)
       have H' := ak H
       clear H
       go_wp2
       go_meet
       case rel => exact ⟨_, H', ⟨by have := HJ12.out; have := HK2.out; first | omega | exact Nat.le_refl _⟩, ⟨by (with_reducible repeat (first | apply Kd.N_alloc | apply Kd.N_drewN | apply Kd.N_drew)); exact HO_18.out⟩, ⟨by (with_reducible repeat (first | apply Kd.N_alloc | apply Kd.N_drewN | apply Kd.N_drew)); exact HO_19.out⟩, ⟨rU_ HO_20.out⟩, ⟨bU_ HB.out⟩⟩
      rw [if_neg c43] at H
      have c43b0 := decide_eq_false c43
      clear c43
      (first | rw [c43b0] | (simp only [i64_w, i32_w]; rw [c43b0]) | rw [c43b1] | skip)
      revert H
      refine bd2_ fun t994 t995 A44 H => ?_
      try dsimp only at H
      have HC45 := ak H
      clear H
      obtain ⟨Ao46, co46, eo46⟩ := Kd.N_slice HO_18.out
      subst eo46
      obtain ⟨Ao47, co47, eo47⟩ := Kd.N_slice HO_19.out
      subst eo47
      obtain ⟨Ao48, co48, eo48⟩ := R_slice HO_20.out
      subst eo48
      go_upto_if 150 with (first | ((with_reducible refine gate_callee (f := 26) rfl ?_); refine gl_ (some 146) Tryd.func26 #[.int .i64 0, .slice Ao46 x18_12.length co46, .slice Ao47 t964.length co47, .slice Ao48 x20_12.length co48] ?_; (with_reducible refine (gap_Found.calls k2 0 _ _ x18_12 _ _ t964 _ _ x20_12 t994 t995 _ ?side1 ?side2 ?side3 ?side4 ?side5 ?side6 ?side7 A44.out).mono ?_); (case side1 => exact fU_ HG.out HB.out); (case side2 => exact cU_ ((Kd.N_reads' HO_18.out).2.2)); (case side3 => exact (Kd.N_reads' HO_18.out).2.1); (case side4 => exact cU_ ((Kd.N_reads' HO_19.out).2.2)); (case side5 => exact (Kd.N_reads' HO_19.out).2.1); (case side6 => exact cU_ ((R_reads' HO_20.out).2.2)); (case side7 => exact (R_reads' HO_20.out).2.1); rintro e w49 ⟨rfl, hb⟩; refine ⟨_, rfl, ?_⟩; refine nx4_ (Kd.N_below (by (with_reducible repeat (first | apply Kd.N_alloc | apply Kd.N_drewN | apply Kd.N_drew)); exact HO_18.out) hb) (Kd.N_below (by (with_reducible repeat (first | apply Kd.N_alloc | apply Kd.N_drewN | apply Kd.N_drew)); exact HO_19.out) hb) (R_below (rU_ HO_20.out) hb) (below_step (bU_ HB.out) hb) ?_; clear HO_18 HO_19 HO_20 HB; intro HO_18 HO_19 HO_20 HB; clear hb))
      (try simp only [Act.put, s1_, s2_, s3_])
      go_cut [] (fun wc => ∃ (kq : Nat), Aside0 (gSums_.j8 kq (wrap64 (Int.tmod a0 5)) ji10 (wrap64 (1 + (wrap64 (Int.tmod a2 2)))) x18_12 t964 x23_2 t994 = some r) ∧ Aside0 (kq ≤ k2) ∧ Aside0 (Kd.N (Kd.slice 48 (Kd.int .u64)) 35 wc w.heap.size (fun k_ => some k_ ≠ ((.slice Ao47 t964.length co47) : Value).ownBlock) (.slice Ao46 x18_12.length co46) x18_12) ∧ Aside0 (Kd.N (Kd.slice 48 (Kd.int .u64)) 35 wc w.heap.size (fun k_ => some k_ ≠ ((.slice Ao46 x18_12.length co46) : Value).ownBlock) (.slice Ao47 t964.length co47) t964) ∧ Aside0 (Below w.heap.size w wc))
      case first =>
       have H := HC45.out
       clear HC45
       obtain ⟨c50, H⟩ : (t995 = 0) ∧ _ := it_ H
       have c50b0 := beq_iff_eq.mpr c50
       have c50b1 := bne_eq_false_iff_eq.mpr c50
       clear c50
       (first | rw [c50b0] | (simp only [i64_w, i32_w]; rw [c50b0]) | rw [c50b1] | skip)
       have H' := ak H
       clear H
       go_wp2
       go_meet
       case rel => exact ⟨_, H', ⟨by have := HJ12.out; have := HK2.out; first | omega | exact Nat.le_refl _⟩, ⟨by (with_reducible repeat (first | apply Kd.N_alloc | apply Kd.N_drewN | apply Kd.N_drew)); exact Kd.N_mono HO_18.out (fun _ hk => hk.1)⟩, ⟨by (with_reducible repeat (first | apply Kd.N_alloc | apply Kd.N_drewN | apply Kd.N_drew)); exact Kd.N_mono HO_19.out (fun _ hk => hk.1)⟩, ⟨bU_ HB.out⟩⟩
      case rest =>
       clear HC45
       (try clear c1); (try clear c2); (try clear p2); (try clear c3); (try clear p3); (try clear q3); (try clear hx3); (try clear c4); (try clear c5); (try clear c6); (try clear p6); (try clear c9); (try clear p9); (try clear q9); (try clear hx9); (try clear qi9); (try clear c11); (try clear c11b0); (try clear c11b1); (try clear c12); (try clear c12b0); (try clear c12b1); (try clear c20); (try clear c23); (try clear c23b0); (try clear c23b1); (try clear c24); (try clear c24b0); (try clear c25); (try clear c25b0); (try clear c26); (try clear c26b0); (try clear c26b1); (try clear c27); (try clear c27b0); (try clear c27b1); (try clear c29); (try clear c29b0); (try clear c30); (try clear c30b0); (try clear c31); (try clear p31); (try clear q31); (try clear hx31); (try clear hf31); (try clear c32); (try clear c32b0); (try clear p33); (try clear q33); (try clear hx33); (try clear hf33); (try clear c36); (try clear hx36); (try clear hf36); (try clear c43); (try clear c43b0); (try clear c43b1); (try clear c50); (try clear c50b0); (try clear c50b1); (try clear hx31_0); (try clear hx33_0); (try clear hx36_0); (try clear hx975_0); (try clear hx976_0); (try clear hx977_0); (try clear hx979_0); (try clear p975); (try clear p976); (try clear p977); (try clear p979); (try clear q975); (try clear q976); (try clear q977); (try clear q979)
       obtain ⟨kq, HA, HJ44, HO_18, HO_19, HB⟩ := hcut
       as_aux_lemma =>
       cases kq with
       | zero => exact absurd HA.out (by simp [gSums_.j8])
       | succ kj44 =>
        have H := HA.out
        clear HA
        simp only [gSums_.j8] at H
        have HC51 := ak H
        clear H
        go_upto_if 152 with (fail)
        go_cut [] (fun wc => ∃ (kq : Nat), Aside0 (gSums_.j9 kq (wrap64 (Int.tmod a0 5)) ji10 x18_12 t964 t994 = some r) ∧ Aside0 (kq ≤ kj44) ∧ Aside0 (Kd.N (Kd.slice 48 (Kd.int .u64)) 35 wc w.heap.size (fun k_ => some k_ ≠ ((.slice Ao47 t964.length co47) : Value).ownBlock) (.slice Ao46 x18_12.length co46) x18_12) ∧ Aside0 (Kd.N (Kd.slice 48 (Kd.int .u64)) 35 wc w.heap.size (fun k_ => some k_ ≠ ((.slice Ao46 x18_12.length co46) : Value).ownBlock) (.slice Ao47 t964.length co47) t964) ∧ Aside0 (Below w.heap.size w wc))
        case first =>
         have H := HC51.out
         clear HC51
         by_cases c52 : x23_2 = true
         ·subst c52
          rw [if_pos rfl] at H
          have H' := ak H
          clear H
          go_wp2
          go_meet
          case rel => exact ⟨_, H', ⟨by have := HJ12.out; have := HK2.out; have := HJ44.out; first | omega | exact Nat.le_refl _⟩, ⟨by (with_reducible repeat (first | apply Kd.N_alloc | apply Kd.N_drewN | apply Kd.N_drew)); exact HO_18.out⟩, ⟨by (with_reducible repeat (first | apply Kd.N_alloc | apply Kd.N_drewN | apply Kd.N_drew)); exact HO_19.out⟩, ⟨bU_ HB.out⟩⟩
         replace c52 := Bool.eq_false_iff.mpr c52
         subst c52
         rw [if_neg (show ¬ (false = true) by decide)] at H
         revert H
         refine bd3_ fun t996 t999 t1002 A53 H => ?_
         try dsimp only at H
         revert H
         refine bd_ fun t1004 A54 H => ?_
         by_cases c55 : t1004 = true
         ·subst c55
          rw [if_pos rfl] at H
          revert H
          refine bd_ fun t1005 A56 H => ?_
          obtain rfl := Option.some.inj H
          go_wp2_with (first | ((with_reducible refine gate_callee (f := 14) rfl ?_); refine goesL_ (some 157) rfl rfl Tryd.func14 (by kernel_rfl) rfl #[.int .i64 0, .int .i64 (wrap64 (Int.tmod a0 5)), .int .i64 ji10, .int .i64 (wrap64 (1 + (wrap64 (Int.tmod a2 2))))] rfl (by (try simp only [List.map_toArray, List.map_cons, List.map_nil]); first | done | (simp only [hji10]; rfl) | rfl | (simp only [List.length_drop, List.length_take]; rfl)) ?_; (with_reducible refine (gap_FoundBound.calls kj44 0 (wrap64 (Int.tmod a0 5)) ji10 (wrap64 (1 + (wrap64 (Int.tmod a2 2)))) t996 t999 t1002 _ ?side1 A53.out).mono ?_); (case side1 => exact fU_ HG.out HB.out); rintro e w57 ⟨v997, v1000, rfl, ho0, ho1, hb⟩; refine ⟨_, rfl, ?_⟩; refine nx5_ (Kd.N_below (by (with_reducible repeat (first | apply Kd.N_alloc | apply Kd.N_drewN | apply Kd.N_drew)); exact HO_18.out) hb) (Kd.N_below (by (with_reducible repeat (first | apply Kd.N_alloc | apply Kd.N_drewN | apply Kd.N_drew)); exact HO_19.out) hb) (V_lower (V_mono (ok' := fun k_ => some k_ ≠ (.slice Ao46 x18_12.length co46 : Value).ownBlock ∧ some k_ ≠ (.slice Ao47 t964.length co47 : Value).ownBlock) ho0 (fun k_ hk_ => ⟨(fresh' (Kd.N_lt (by (with_reducible repeat (first | apply Kd.N_alloc | apply Kd.N_drewN | apply Kd.N_drew)); exact HO_18.out)) k_ hk_), (fresh' (Kd.N_lt (by (with_reducible repeat (first | apply Kd.N_alloc | apply Kd.N_drewN | apply Kd.N_drew)); exact HO_19.out)) k_ hk_)⟩)) (below_size (bU_ HB.out))) (V_lower (V_mono (ok' := fun k_ => some k_ ≠ (.slice Ao46 x18_12.length co46 : Value).ownBlock ∧ some k_ ≠ (.slice Ao47 t964.length co47 : Value).ownBlock) ho1 (fun k_ hk_ => ⟨(fresh' (Kd.N_lt (by (with_reducible repeat (first | apply Kd.N_alloc | apply Kd.N_drewN | apply Kd.N_drew)); exact HO_18.out)) k_ hk_), (fresh' (Kd.N_lt (by (with_reducible repeat (first | apply Kd.N_alloc | apply Kd.N_drewN | apply Kd.N_drew)); exact HO_19.out)) k_ hk_)⟩)) (below_size (bU_ HB.out))) (below_step (bU_ HB.out) hb) ?_; clear HO_18 HO_19 HB; intro HO_18 HO_19 HO998 HO1001 HB; clear hb ho0 ho1) | ((with_reducible refine gate_dst (N := 30) rfl ?_); refine bx_ 30 26 #[.slice none 0 0, .slice none 0 0] ?_; intro gb1003 hg w58 hbox hb; refine nx8_ (Kd.N_below (Kd.N_elderB (by (with_reducible repeat (first | apply Kd.N_alloc | apply Kd.N_drewN | apply Kd.N_drew)); exact HO_18.out) gb1003 (Nat.le_of_eq hg.symm)) hb) (Kd.N_below (Kd.N_elderB (by (with_reducible repeat (first | apply Kd.N_alloc | apply Kd.N_drewN | apply Kd.N_drew)); exact HO_19.out) gb1003 (Nat.le_of_eq hg.symm)) hb) (V_below (V_elderB (vU_ HO998.out) gb1003 (Nat.le_of_eq hg.symm)) hb) (V_below (V_elderB (vU_ HO1001.out) gb1003 (Nat.le_of_eq hg.symm)) hb) (below_step (bU_ HB.out) hb) (hbox) ((hs_ hg (below_size (bU_ HB.out)))) ((hs_ hg (below_size (bU_ HB.out)))) ?_; clear HO_18 HO_19 HO998 HO1001 HB; intro HO_18 HO_19 HO998 HO1001 HB BK1003 GW1003 GE1003; clear hb hbox hg; obtain ⟨Ao59, co59, eo59⟩ := V_slice HO998.out; subst eo59; have hcz60_0 := bc0_ BK1003.out; have hcz60_1 := bc1_ BK1003.out; have hfz60_0 := bkf9_ BK1003.out 0; have hfz60_1 := bkf9_ BK1003.out 1; obtain ⟨Ao61, co61, eo61⟩ := V_slice HO1001.out; subst eo61) | ((with_reducible refine gate_callee (f := 23) rfl ?_); refine gl_ (some 163) Tryd.func23 #[.int .i64 t994, .int .i64 9409, .agg #[.slice Ao59 t996.length co59, .slice Ao61 t999.length co61], .int .i64 t1002] ?_; (with_reducible refine (a11part.calls kj44 t994 9409 _ _ t996 _ _ t999 t1002 true _ ?side1 ?side2 ?side3 ?side4 A54.out).mono ?_); (case side1 => refine (V_reads' (e := 115) (base := w.heap.size) (ok := fun k_ => ((some k_ ≠ (.slice Ao46 x18_12.length co46 : Value).ownBlock ∧ some k_ ≠ (.slice Ao47 t964.length co47 : Value).ownBlock) ∧ k_ ≠ gb1003)) (n := t996.length) (c := co59) ?_).2.2; exact (vL_ (vf_ gb1003 HO998.out fun _ hk => hk.2))); (case side2 => exact (V_reads' HO998.out).2.1); (case side3 => refine (V_reads' (e := 115) (base := w.heap.size) (ok := fun k_ => ((some k_ ≠ (.slice Ao46 x18_12.length co46 : Value).ownBlock ∧ some k_ ≠ (.slice Ao47 t964.length co47 : Value).ownBlock) ∧ k_ ≠ gb1003)) (n := t999.length) (c := co61) ?_).2.2; exact (vL_ (vf_ gb1003 HO1001.out fun _ hk => hk.2))); (case side4 => exact (V_reads' HO1001.out).2.1); rintro e w62 ⟨rfl, hb⟩; refine ⟨_, rfl, ?_⟩; refine nx6_ (Kd.N_below (by (with_reducible repeat (first | apply Kd.N_alloc | apply Kd.N_drewN | apply Kd.N_drew)); exact (Kd.N_mono (Kd.N_far (p := ⟨gb1003, 1, none⟩) (Kd.N_far (p := ⟨gb1003, 0, none⟩) (Kd.N_mono HO_18.out (fun k_ hk => (⟨hk, hk.2⟩ : _ ∧ k_ ≠ gb1003))) (fun _ hk => hk.2) (.slice Ao59 t996.length co59)) (fun _ hk => hk.2) (.slice Ao61 t999.length co61)) (fun _ h_ => h_.1))) hb) (Kd.N_below (by (with_reducible repeat (first | apply Kd.N_alloc | apply Kd.N_drewN | apply Kd.N_drew)); exact (Kd.N_mono (Kd.N_far (p := ⟨gb1003, 1, none⟩) (Kd.N_far (p := ⟨gb1003, 0, none⟩) (Kd.N_mono HO_19.out (fun k_ hk => (⟨hk, hk.2⟩ : _ ∧ k_ ≠ gb1003))) (fun _ hk => hk.2) (.slice Ao59 t996.length co59)) (fun _ hk => hk.2) (.slice Ao61 t999.length co61)) (fun _ h_ => h_.1))) hb) (V_below (vL_ (vf_ gb1003 HO998.out fun _ hk => hk.2)) hb) (V_below (vL_ (vf_ gb1003 HO1001.out fun _ hk => hk.2)) hb) (blk_below (g := gb1003) (o := .cells #[.slice Ao59 t996.length co59, .slice Ao61 t999.length co61] 26 (0, 0)) kp_ hb) (below_step sU_ hb) ?_; clear HO_18 HO_19 HO998 HO1001 BK1003 HB; intro HO_18 HO_19 HO998 HO1001 BK1003 HB; clear hb) | (go_at_call 16; (with_reducible refine (a11works.calls kj44  t1005 _ ?side1 A56.out).mono ?_); (case side1 => repeat (first | with_reducible exact HG.out | with_reducible exact (Fld.below HG.out HB.out) | exact (Fld.below HG.out sU_) | (with_reducible refine Fld.alloc ?_ _) | (with_reducible refine Fld.drewN ?_ _) | (with_reducible refine Fld.drew ?_))); rintro e w63 ⟨rfl, hb⟩; refine nx6_ (Kd.N_below (by (with_reducible repeat (first | apply Kd.N_alloc | apply Kd.N_drewN | apply Kd.N_drew)); exact HO_18.out) hb) (Kd.N_below (by (with_reducible repeat (first | apply Kd.N_alloc | apply Kd.N_drewN | apply Kd.N_drew)); exact HO_19.out) hb) (V_below (vU_ HO998.out) hb) (V_below (vU_ HO1001.out) hb) (blk_below (kU_ BK1003.out) hb) (below_step sU_ hb) ?_; clear HO_18 HO_19 HO998 HO1001 BK1003 HB; intro HO_18 HO_19 HO998 HO1001 BK1003 HB; clear hb))
          go_ret
          exact ⟨by first | rfl | (simp [errW_none, errW_some] <;> rfl) | (simp only [← hji10]; first | rfl | (simp [errW_none, errW_some] <;> rfl)) | (simp [*, errW_none, errW_some] <;> rfl), sU_⟩
         replace c55 := Bool.eq_false_iff.mpr c55
         subst c55
         rw [if_neg (show ¬ (false = true) by decide)] at H
         exact absurd H (by simp)
        case rest =>
         clear HC51
         (try clear c1); (try clear c2); (try clear p2); (try clear c3); (try clear p3); (try clear q3); (try clear hx3); (try clear c4); (try clear c5); (try clear c6); (try clear p6); (try clear c9); (try clear p9); (try clear q9); (try clear hx9); (try clear qi9); (try clear c11); (try clear c11b0); (try clear c11b1); (try clear c12); (try clear c12b0); (try clear c12b1); (try clear c14); (try clear c20); (try clear c23); (try clear c23b0); (try clear c23b1); (try clear c24); (try clear c24b0); (try clear c25); (try clear c25b0); (try clear c26); (try clear c26b0); (try clear c26b1); (try clear c27); (try clear c27b0); (try clear c27b1); (try clear c29); (try clear c29b0); (try clear c30); (try clear c30b0); (try clear c31); (try clear p31); (try clear q31); (try clear hx31); (try clear hf31); (try clear c32); (try clear c32b0); (try clear p33); (try clear q33); (try clear hx33); (try clear hf33); (try clear c36); (try clear hx36); (try clear hf36); (try clear c43); (try clear c43b0); (try clear c43b1); (try clear c50); (try clear c50b0); (try clear c50b1); (try clear c52); (try clear c55); (try clear hcz60_0); (try clear hcz60_1); (try clear hfz60_0); (try clear hfz60_1); (try clear hx31_0); (try clear hx33_0); (try clear hx36_0); (try clear hx975_0); (try clear hx976_0); (try clear hx977_0); (try clear hx979_0); (try clear p975); (try clear p976); (try clear p977); (try clear p979); (try clear q975); (try clear q976); (try clear q977); (try clear q979)
         obtain ⟨kq, HA, HJ50, HO_18, HO_19, HB⟩ := hcut
         as_aux_lemma =>
         cases kq with
         | zero => exact absurd HA.out (by simp [gSums_.j9])
         | succ kj50 =>
          have H := HA.out
          clear HA
          simp only [gSums_.j9] at H
          have H' := ak H
          clear H
          go_wp2
          go_loopg [32, 33] kj50 (fun kq v32 v33 w' => ∃ (x32_5 : Int) (x33_5 : Int), v32 = .int .i64 x32_5 ∧ v33 = .int .u64 x33_5 ∧ Aside0 (gSums_.l4 kq (wrap64 (Int.tmod a0 5)) ji10 x18_12 t964 t994 x32_5 x33_5 = some r) ∧ Aside0 (kq ≤ kj50) ∧ Aside0 (Kd.N (Kd.slice 48 (Kd.int .u64)) 35 w' w.heap.size (fun k_ => some k_ ≠ ((.slice Ao47 t964.length co47) : Value).ownBlock) (.slice Ao46 x18_12.length co46) x18_12) ∧ Aside0 (Kd.N (Kd.slice 48 (Kd.int .u64)) 35 w' w.heap.size (fun k_ => some k_ ≠ ((.slice Ao46 x18_12.length co46) : Value).ownBlock) (.slice Ao47 t964.length co47) t964) ∧ Aside0 (Below w.heap.size w w'))
          case atStart => exact ⟨(0), (0), gb_, gb_, H', ⟨Nat.le_refl _⟩, ⟨by (with_reducible repeat (first | apply Kd.N_alloc | apply Kd.N_drewN | apply Kd.N_drew)); exact HO_18.out⟩, ⟨by (with_reducible repeat (first | apply Kd.N_alloc | apply Kd.N_drewN | apply Kd.N_drew)); exact HO_19.out⟩, ⟨bU_ HB.out⟩⟩
          case round =>
           clear H'
           (try clear c1); (try clear c2); (try clear p2); (try clear c3); (try clear p3); (try clear q3); (try clear hx3); (try clear c4); (try clear c5); (try clear c6); (try clear p6); (try clear c9); (try clear p9); (try clear q9); (try clear hx9); (try clear qi9); (try clear c11); (try clear c11b0); (try clear c11b1); (try clear c12); (try clear c12b0); (try clear c12b1); (try clear c14); (try clear c20); (try clear c23); (try clear c23b0); (try clear c23b1); (try clear c24); (try clear c24b0); (try clear c25); (try clear c25b0); (try clear c26); (try clear c26b0); (try clear c26b1); (try clear c27); (try clear c27b0); (try clear c27b1); (try clear c29); (try clear c29b0); (try clear c30); (try clear c30b0); (try clear c31); (try clear p31); (try clear q31); (try clear hx31); (try clear hf31); (try clear c32); (try clear c32b0); (try clear p33); (try clear q33); (try clear hx33); (try clear hf33); (try clear c36); (try clear hx36); (try clear hf36); (try clear c43); (try clear c43b0); (try clear c43b1); (try clear c50); (try clear c50b0); (try clear c50b1); (try clear c52); (try clear c55); (try clear hcz60_0); (try clear hcz60_1); (try clear hfz60_0); (try clear hfz60_1); (try clear hx31_0); (try clear hx33_0); (try clear hx36_0); (try clear hx975_0); (try clear hx976_0); (try clear hx977_0); (try clear hx979_0); (try clear p975); (try clear p976); (try clear p977); (try clear p979); (try clear q975); (try clear q976); (try clear q977); (try clear q979)
           obtain ⟨x32_5, x33_5, rfl, rfl, HA, HK5, HO_18, HO_19, HB⟩ := hrel
           cases gk with
           | zero => exact absurd HA.out (by simp [gSums_.l4])
           | succ k5 =>
            have H := HA.out
            clear HA
            simp only [gSums_.l4] at H
            have HC64 := ak H
            clear H
            go_upto_if 168 with (fail)
            go_cut [] (fun wc => ∃ (kq : Nat), Aside0 (gSums_.j11 kq (wrap64 (Int.tmod a0 5)) ji10 x18_12 t964 t994 x32_5 x33_5 = some r) ∧ Aside0 (kq ≤ k5) ∧ Aside0 (Kd.N (Kd.slice 48 (Kd.int .u64)) 35 wc w.heap.size (fun k_ => some k_ ≠ ((.slice Ao47 t964.length co47) : Value).ownBlock) (.slice Ao46 x18_12.length co46) x18_12) ∧ Aside0 (Kd.N (Kd.slice 48 (Kd.int .u64)) 35 wc w.heap.size (fun k_ => some k_ ≠ ((.slice Ao46 x18_12.length co46) : Value).ownBlock) (.slice Ao47 t964.length co47) t964) ∧ Aside0 (Below w.heap.size w wc))
            case first =>
             have H := HC64.out
             clear HC64
             by_cases c65 : x33_5 < 97
             ·rw [if_pos c65] at H
              have c65b0 := decide_eq_true c65
              clear c65
              (first | rw [c65b0] | (simp only [i64_w, i32_w]; rw [c65b0]) | rw [c65b1] | skip)
              have H' := ak H
              clear H
              go_wp2
              go_meet
              case rel => exact ⟨_, H', ⟨by have := HJ12.out; have := HK2.out; have := HJ44.out; have := HJ50.out; have := HK5.out; first | omega | exact Nat.le_refl _⟩, ⟨by (with_reducible repeat (first | apply Kd.N_alloc | apply Kd.N_drewN | apply Kd.N_drew)); exact HO_18.out⟩, ⟨by (with_reducible repeat (first | apply Kd.N_alloc | apply Kd.N_drewN | apply Kd.N_drew)); exact HO_19.out⟩, ⟨bU_ HB.out⟩⟩
             rw [if_neg c65] at H
             have c65b0 := decide_eq_false c65
             clear c65
             (first | rw [c65b0] | (simp only [i64_w, i32_w]; rw [c65b0]) | rw [c65b1] | skip)
             obtain ⟨c66, H⟩ : (t994 = x32_5) ∧ _ := it_ H
             have c66b0 := beq_iff_eq.mpr c66
             have c66b1 := bne_eq_false_iff_eq.mpr c66
             clear c66
             revert H
             refine bd_ fun t1006 A67 H => ?_
             obtain rfl := Option.some.inj H
             go_wp2_with (first | (go_at_call 16; (with_reducible refine (a11works.calls k5  t1006 _ ?side1 A67.out).mono ?_); (case side1 => exact fU_ HG.out HB.out); rintro e w68 ⟨rfl, hb⟩; refine nx3_ (Kd.N_below (by (with_reducible repeat (first | apply Kd.N_alloc | apply Kd.N_drewN | apply Kd.N_drew)); exact HO_18.out) hb) (Kd.N_below (by (with_reducible repeat (first | apply Kd.N_alloc | apply Kd.N_drewN | apply Kd.N_drew)); exact HO_19.out) hb) (below_step (bU_ HB.out) hb) ?_; clear HO_18 HO_19 HB; intro HO_18 HO_19 HB; clear hb))
             go_ret
             exact ⟨by first | rfl | (simp [errW_none, errW_some] <;> rfl) | (simp only [← hji10]; first | rfl | (simp [errW_none, errW_some] <;> rfl)) | (simp [*, errW_none, errW_some] <;> rfl), bU_ HB.out⟩
            case rest =>
             clear HC64
             (try clear c1); (try clear c2); (try clear p2); (try clear c3); (try clear p3); (try clear q3); (try clear hx3); (try clear c4); (try clear c5); (try clear c6); (try clear p6); (try clear c9); (try clear p9); (try clear q9); (try clear hx9); (try clear qi9); (try clear c11); (try clear c11b0); (try clear c11b1); (try clear c12); (try clear c12b0); (try clear c12b1); (try clear c14); (try clear c20); (try clear c23); (try clear c23b0); (try clear c23b1); (try clear c24); (try clear c24b0); (try clear c25); (try clear c25b0); (try clear c26); (try clear c26b0); (try clear c26b1); (try clear c27); (try clear c27b0); (try clear c27b1); (try clear c29); (try clear c29b0); (try clear c30); (try clear c30b0); (try clear c31); (try clear p31); (try clear q31); (try clear hx31); (try clear hf31); (try clear c32); (try clear c32b0); (try clear p33); (try clear q33); (try clear hx33); (try clear hf33); (try clear c36); (try clear hx36); (try clear hf36); (try clear c43); (try clear c43b0); (try clear c43b1); (try clear c50); (try clear c50b0); (try clear c50b1); (try clear c52); (try clear c55); (try clear p64); (try clear c65); (try clear c65b0); (try clear c65b1); (try clear c66); (try clear c66b0); (try clear c66b1); (try clear hcz60_0); (try clear hcz60_1); (try clear hfz60_0); (try clear hfz60_1); (try clear hx31_0); (try clear hx33_0); (try clear hx36_0); (try clear hx975_0); (try clear hx976_0); (try clear hx977_0); (try clear hx979_0); (try clear p975); (try clear p976); (try clear p977); (try clear p979); (try clear q975); (try clear q976); (try clear q977); (try clear q979)
             obtain ⟨kq, HA, HJ63, HO_18, HO_19, HB⟩ := hcut
             as_aux_lemma =>
             cases kq with
             | zero => exact absurd HA.out (by simp [gSums_.j11])
             | succ kj63 =>
              have H := HA.out
              clear HA
              simp only [gSums_.j11] at H
              have H' := ak H
              clear H
              go_wp2
              go_loopg [32, 34] kj63 (fun kq v32 v34 w' => ∃ (x32_7 : Int) (x34_7 : Int), v32 = .int .i64 x32_7 ∧ v34 = .int .u64 x34_7 ∧ Aside0 (gSums_.l5 kq (wrap64 (Int.tmod a0 5)) ji10 x18_12 t964 t994 x32_7 x33_5 x34_7 = some r) ∧ Aside0 (kq ≤ kj63) ∧ Aside0 (Kd.N (Kd.slice 48 (Kd.int .u64)) 35 w' w.heap.size (fun k_ => some k_ ≠ ((.slice Ao47 t964.length co47) : Value).ownBlock) (.slice Ao46 x18_12.length co46) x18_12) ∧ Aside0 (Kd.N (Kd.slice 48 (Kd.int .u64)) 35 w' w.heap.size (fun k_ => some k_ ≠ ((.slice Ao46 x18_12.length co46) : Value).ownBlock) (.slice Ao47 t964.length co47) t964) ∧ Aside0 (Below w.heap.size w w'))
              case atStart => exact ⟨(x32_5), (0), gb_, gb_, H', ⟨Nat.le_refl _⟩, ⟨by (with_reducible repeat (first | apply Kd.N_alloc | apply Kd.N_drewN | apply Kd.N_drew)); exact HO_18.out⟩, ⟨by (with_reducible repeat (first | apply Kd.N_alloc | apply Kd.N_drewN | apply Kd.N_drew)); exact HO_19.out⟩, ⟨bU_ HB.out⟩⟩
              case round =>
               clear H'
               (try clear c1); (try clear c2); (try clear p2); (try clear c3); (try clear p3); (try clear q3); (try clear hx3); (try clear c4); (try clear c5); (try clear c6); (try clear p6); (try clear c9); (try clear p9); (try clear q9); (try clear hx9); (try clear qi9); (try clear c11); (try clear c11b0); (try clear c11b1); (try clear c12); (try clear c12b0); (try clear c12b1); (try clear c14); (try clear c20); (try clear c23); (try clear c23b0); (try clear c23b1); (try clear c24); (try clear c24b0); (try clear c25); (try clear c25b0); (try clear c26); (try clear c26b0); (try clear c26b1); (try clear c27); (try clear c27b0); (try clear c27b1); (try clear c29); (try clear c29b0); (try clear c30); (try clear c30b0); (try clear c31); (try clear p31); (try clear q31); (try clear hx31); (try clear hf31); (try clear c32); (try clear c32b0); (try clear p33); (try clear q33); (try clear hx33); (try clear hf33); (try clear c36); (try clear hx36); (try clear hf36); (try clear c43); (try clear c43b0); (try clear c43b1); (try clear c50); (try clear c50b0); (try clear c50b1); (try clear c52); (try clear c55); (try clear p64); (try clear c65); (try clear c65b0); (try clear c65b1); (try clear c66); (try clear c66b0); (try clear c66b1); (try clear hcz60_0); (try clear hcz60_1); (try clear hfz60_0); (try clear hfz60_1); (try clear hx31_0); (try clear hx33_0); (try clear hx36_0); (try clear hx975_0); (try clear hx976_0); (try clear hx977_0); (try clear hx979_0); (try clear p975); (try clear p976); (try clear p977); (try clear p979); (try clear q975); (try clear q976); (try clear q977); (try clear q979)
               obtain ⟨x32_7, x34_7, rfl, rfl, HA, HK7, HO_18, HO_19, HB⟩ := hrel
               cases gk with
               | zero => exact absurd HA.out (by simp [gSums_.l5])
               | succ k7 =>
                have H := HA.out
                clear HA
                simp only [gSums_.l5] at H
                have HC69 := ak H
                clear H
                go_upto_if 172 with (fail)
                go_cut [] (fun wc => ∃ (kq : Nat), Aside0 (gSums_.j13 kq (wrap64 (Int.tmod a0 5)) ji10 x18_12 t964 t994 x32_7 x33_5 x34_7 = some r) ∧ Aside0 (kq ≤ k7) ∧ Aside0 (Kd.N (Kd.slice 48 (Kd.int .u64)) 35 wc w.heap.size (fun k_ => some k_ ≠ ((.slice Ao47 t964.length co47) : Value).ownBlock) (.slice Ao46 x18_12.length co46) x18_12) ∧ Aside0 (Kd.N (Kd.slice 48 (Kd.int .u64)) 35 wc w.heap.size (fun k_ => some k_ ≠ ((.slice Ao46 x18_12.length co46) : Value).ownBlock) (.slice Ao47 t964.length co47) t964) ∧ Aside0 (Below w.heap.size w wc))
                case first =>
                 have H := HC69.out
                 clear HC69
                 by_cases c70 : x34_7 < 97
                 ·rw [if_pos c70] at H
                  have c70b0 := decide_eq_true c70
                  clear c70
                  (first | rw [c70b0] | (simp only [i64_w, i32_w]; rw [c70b0]) | rw [c70b1] | skip)
                  have H' := ak H
                  clear H
                  go_wp2
                  go_meet
                  case rel => exact ⟨_, H', ⟨by have := HJ12.out; have := HK2.out; have := HJ44.out; have := HJ50.out; have := HK5.out; have := HJ63.out; have := HK7.out; first | omega | exact Nat.le_refl _⟩, ⟨by (with_reducible repeat (first | apply Kd.N_alloc | apply Kd.N_drewN | apply Kd.N_drew)); exact HO_18.out⟩, ⟨by (with_reducible repeat (first | apply Kd.N_alloc | apply Kd.N_drewN | apply Kd.N_drew)); exact HO_19.out⟩, ⟨bU_ HB.out⟩⟩
                 rw [if_neg c70] at H
                 have c70b0 := decide_eq_false c70
                 clear c70
                 (first | rw [c70b0] | (simp only [i64_w, i32_w]; rw [c70b0]) | rw [c70b1] | skip)
                 have H' := ak H
                 clear H
                 go_wp2
                 go_roundg k7
                 case measure => have := HJ12.out; have := HK2.out; have := HJ44.out; have := HJ50.out; have := HK5.out; have := HJ63.out; have := HK7.out; omega
                 case rel => exact ⟨(x32_7), (IntKind.u64.wrap (x33_5 + 1)), gb_, gb_, H', ⟨by have := HJ12.out; have := HK2.out; have := HJ44.out; have := HJ50.out; have := HK5.out; have := HJ63.out; have := HK7.out; omega⟩, ⟨by (with_reducible repeat (first | apply Kd.N_alloc | apply Kd.N_drewN | apply Kd.N_drew)); exact HO_18.out⟩, ⟨by (with_reducible repeat (first | apply Kd.N_alloc | apply Kd.N_drewN | apply Kd.N_drew)); exact HO_19.out⟩, ⟨bU_ HB.out⟩⟩
                case rest =>
                 clear HC69
                 (try clear c1); (try clear c2); (try clear p2); (try clear c3); (try clear p3); (try clear q3); (try clear hx3); (try clear c4); (try clear c5); (try clear c6); (try clear p6); (try clear c7); (try clear c9); (try clear p9); (try clear q9); (try clear hx9); (try clear qi9); (try clear c11); (try clear c11b0); (try clear c11b1); (try clear c12); (try clear c12b0); (try clear c12b1); (try clear c14); (try clear c20); (try clear c23); (try clear c23b0); (try clear c23b1); (try clear c24); (try clear c24b0); (try clear c25); (try clear c25b0); (try clear c26); (try clear c26b0); (try clear c26b1); (try clear c27); (try clear c27b0); (try clear c27b1); (try clear c29); (try clear c29b0); (try clear c30); (try clear c30b0); (try clear c31); (try clear p31); (try clear q31); (try clear hx31); (try clear hf31); (try clear c32); (try clear c32b0); (try clear p33); (try clear q33); (try clear hx33); (try clear hf33); (try clear c36); (try clear hx36); (try clear hf36); (try clear c43); (try clear c43b0); (try clear c43b1); (try clear c50); (try clear c50b0); (try clear c50b1); (try clear c52); (try clear c55); (try clear p64); (try clear c65); (try clear c65b0); (try clear c65b1); (try clear c66); (try clear c66b0); (try clear c66b1); (try clear c70); (try clear c70b0); (try clear c70b1); (try clear hcz60_0); (try clear hcz60_1); (try clear hfz60_0); (try clear hfz60_1); (try clear hx31_0); (try clear hx33_0); (try clear hx36_0); (try clear hx975_0); (try clear hx976_0); (try clear hx977_0); (try clear hx979_0); (try clear p975); (try clear p976); (try clear p977); (try clear p979); (try clear q975); (try clear q976); (try clear q977); (try clear q979)
                 obtain ⟨kq, HA, HJ68, HO_18, HO_19, HB⟩ := hcut
                 as_aux_lemma =>
                 cases kq with
                 | zero => exact absurd HA.out (by simp [gSums_.j13])
                 | succ kj68 =>
                  have H := HA.out
                  clear HA
                  simp only [gSums_.j13] at H
                  have H' := ak H
                  clear H
                  go_wp2
                  go_loopg [35, 36] kj68 (fun kq v35 v36 w' => ∃ (x35_9 : Bool) (x36_9 : Int), v35 = .bool x35_9 ∧ v36 = .int .i64 x36_9 ∧ Aside0 (gSums_.l6 kq (wrap64 (Int.tmod a0 5)) ji10 x18_12 t964 t994 x32_7 x33_5 x34_7 x35_9 x36_9 = some r) ∧ Aside0 (kq ≤ kj68) ∧ Aside0 (Kd.N (Kd.slice 48 (Kd.int .u64)) 35 w' w.heap.size (fun k_ => some k_ ≠ ((.slice Ao47 t964.length co47) : Value).ownBlock) (.slice Ao46 x18_12.length co46) x18_12) ∧ Aside0 (Kd.N (Kd.slice 48 (Kd.int .u64)) 35 w' w.heap.size (fun k_ => some k_ ≠ ((.slice Ao46 x18_12.length co46) : Value).ownBlock) (.slice Ao47 t964.length co47) t964) ∧ Aside0 (Below w.heap.size w w'))
                  case atStart => exact ⟨(true), (0), gb_, gb_, H', ⟨Nat.le_refl _⟩, ⟨by (with_reducible repeat (first | apply Kd.N_alloc | apply Kd.N_drewN | apply Kd.N_drew)); exact HO_18.out⟩, ⟨by (with_reducible repeat (first | apply Kd.N_alloc | apply Kd.N_drewN | apply Kd.N_drew)); exact HO_19.out⟩, ⟨bU_ HB.out⟩⟩
                  case round =>
                   clear H'
                   (try clear c1); (try clear c2); (try clear p2); (try clear c3); (try clear p3); (try clear q3); (try clear hx3); (try clear c4); (try clear c5); (try clear c6); (try clear p6); (try clear c7); (try clear c9); (try clear p9); (try clear q9); (try clear hx9); (try clear qi9); (try clear c11); (try clear c11b0); (try clear c11b1); (try clear c12); (try clear c12b0); (try clear c12b1); (try clear c14); (try clear c20); (try clear c23); (try clear c23b0); (try clear c23b1); (try clear c24); (try clear c24b0); (try clear c25); (try clear c25b0); (try clear c26); (try clear c26b0); (try clear c26b1); (try clear c27); (try clear c27b0); (try clear c27b1); (try clear c29); (try clear c29b0); (try clear c30); (try clear c30b0); (try clear c31); (try clear p31); (try clear q31); (try clear hx31); (try clear hf31); (try clear c32); (try clear c32b0); (try clear p33); (try clear q33); (try clear hx33); (try clear hf33); (try clear c36); (try clear hx36); (try clear hf36); (try clear c43); (try clear c43b0); (try clear c43b1); (try clear c50); (try clear c50b0); (try clear c50b1); (try clear c52); (try clear c55); (try clear p64); (try clear c65); (try clear c65b0); (try clear c65b1); (try clear c66); (try clear c66b0); (try clear c66b1); (try clear c70); (try clear c70b0); (try clear c70b1); (try clear hcz60_0); (try clear hcz60_1); (try clear hfz60_0); (try clear hfz60_1); (try clear hx31_0); (try clear hx33_0); (try clear hx36_0); (try clear hx975_0); (try clear hx976_0); (try clear hx977_0); (try clear hx979_0); (try clear p975); (try clear p976); (try clear p977); (try clear p979); (try clear q975); (try clear q976); (try clear q977); (try clear q979)
                   obtain ⟨x35_9, x36_9, rfl, rfl, HA, HK9, HO_18, HO_19, HB⟩ := hrel
                   cases gk with
                   | zero => exact absurd HA.out (by simp [gSums_.l6])
                   | succ k9 =>
                    have H := HA.out
                    clear HA
                    simp only [gSums_.l6] at H
                    by_cases c71 : x36_9 < (wrap64 (Int.tmod a0 5))
                    ·rw [if_pos c71] at H
                     have c71b0 := decide_eq_true c71
                     clear c71
                     by_cases c72 : x35_9 = true
                     ·subst c72
                      rw [if_pos rfl] at H
                      obtain ⟨c73, H⟩ : (0 ≤ x36_9) ∧ _ := it_ H
                      have c73b0 := decide_eq_true c73
                      clear c73
                      obtain ⟨c74, H⟩ : (x36_9 < (x18_12.length : Int)) ∧ _ := it_ H
                      have c74b0 := decide_eq_true c74
                      clear c74
                      revert H
                      refine bd_ fun t1008 A75 H => ?_
                      have H' := ak H
                      clear H
                      have p1007 : 0 ≤ (x36_9 : Int) := od_
                      have q1007 : x36_9 < (x18_12.length : Int) := od_
                      obtain ⟨ad1007, A1007_0, c1007_0, e1007, hx1007_0, hl1007_0, hi1007_0⟩ := at_L3 (Kd.N_reads' HO_18.out).2.2 x36_9 p1007 q1007
                      cases e1007
                      obtain ⟨ce1007, hce1007, hMe1007, hcc1007⟩ := Kd.N_get HO_18.out [] x36_9 p1007 (by first | exact q1007 | exact od_ | (have e_ := (Kd.N_reads' HO_18.out).1; omega))
                      obtain ⟨ua1007_0, uc1007_0, rfl, ul1007_0, ge1007_0⟩ := Kd.FK_slice_open hMe1007
                      have hv1007_0 := hcc1007 0 _ rfl
                      rw [Nat.add_zero, show ((Kd.slice 48 (Kd.int .u64))).sz = 1 from rfl, Nat.mul_one] at hv1007_0
                      replace hv1007_0 := Option.some.inj (hv1007_0.symm.trans hx1007_0)
                      injection hv1007_0 with hva_ hvn_ hvc_
                      rw [hva_] at ge1007_0
                      rw [hvc_] at ul1007_0
                      have HL1007_0 := ak (show Kd.V (Kd.int .u64) 48 _ w.heap.size _ _ (rd_L3 x18_12 x36_9) from V_mk ul1007_0 ge1007_0)
                      clear hva_ hvn_ hvc_ ge1007_0 ul1007_0
                      clear hcc1007 hce1007
                      have HR1007_0 := ak hi1007_0
                      have HC1007_0 := ak hl1007_0
                      clear hi1007_0 hl1007_0
                      replace p1007 := eq_true p1007
                      replace q1007 := eq_true q1007
                      go_wp2_with (first | (go_at_call 27; (with_reducible refine (poly_Eval.calls k9 0 _ _ (rd_L3 x18_12 x36_9) x34_7 t1008 _ ?side1 ?side2 ?side3 A75.out).mono ?_); (case side1 => exact fU_ HG.out HB.out); (case side2 => repeat (first | exact (by repeat (first | (with_reducible exact HR1007_0.out) | (with_reducible refine Kd.C_alloc ?_ _) | (with_reducible refine Kd.C_drewN ?_ _) | (with_reducible refine Kd.C_drew ?_) | exact HR1007_0.out)) | (with_reducible refine Kd.C_alloc ?_ _) | (with_reducible refine Kd.C_drewN ?_ _) | (with_reducible refine Kd.C_drew ?_))); (case side3 => exact HC1007_0.out); rintro e w76 ⟨rfl, hb⟩; refine nx5_ (Kd.N_below (by (with_reducible repeat (first | apply Kd.N_alloc | apply Kd.N_drewN | apply Kd.N_drew)); exact HO_18.out) hb) (Kd.N_below (by (with_reducible repeat (first | apply Kd.N_alloc | apply Kd.N_drewN | apply Kd.N_drew)); exact HO_19.out) hb) (V_below (vU_ HL1007_0.out) hb) (C_below (by repeat (first | (with_reducible exact HR1007_0.out) | (with_reducible refine Kd.C_alloc ?_ _) | (with_reducible refine Kd.C_drewN ?_ _) | (with_reducible refine Kd.C_drew ?_) | exact HR1007_0.out)) hb) (below_step (bU_ HB.out) hb) ?_; clear HO_18 HO_19 HL1007_0 HR1007_0 HB; intro HO_18 HO_19 HL1007_0 HR1007_0 HB; clear hb))
                      go_roundg k9
                      case measure => have := HJ12.out; have := HK2.out; have := HJ44.out; have := HJ50.out; have := HK5.out; have := HJ63.out; have := HK7.out; have := HJ68.out; have := HK9.out; omega
                      case rel => exact ⟨(((Int.tmod (IntKind.u64.wrap (x33_5 + t1008)) 97) != 0)), (wrap64 (x36_9 + 1)), gb_, gb_, H', ⟨by have := HJ12.out; have := HK2.out; have := HJ44.out; have := HJ50.out; have := HK5.out; have := HJ63.out; have := HK7.out; have := HJ68.out; have := HK9.out; omega⟩, ⟨by (with_reducible repeat (first | apply Kd.N_alloc | apply Kd.N_drewN | apply Kd.N_drew)); exact HO_18.out⟩, ⟨by (with_reducible repeat (first | apply Kd.N_alloc | apply Kd.N_drewN | apply Kd.N_drew)); exact HO_19.out⟩, ⟨bU_ HB.out⟩⟩
                     replace c72 := Bool.eq_false_iff.mpr c72
                     subst c72
                     rw [if_neg (show ¬ (false = true) by decide)] at H
                     have H' := ak H
                     clear H
                     go_wp2
                     go_roundg k9
                     case measure => have := HJ12.out; have := HK2.out; have := HJ44.out; have := HJ50.out; have := HK5.out; have := HJ63.out; have := HK7.out; have := HJ68.out; have := HK9.out; omega
                     case rel => exact ⟨(false), (wrap64 (x36_9 + 1)), gb_, gb_, H', ⟨by have := HJ12.out; have := HK2.out; have := HJ44.out; have := HJ50.out; have := HK5.out; have := HJ63.out; have := HK7.out; have := HJ68.out; have := HK9.out; omega⟩, ⟨by (with_reducible repeat (first | apply Kd.N_alloc | apply Kd.N_drewN | apply Kd.N_drew)); exact HO_18.out⟩, ⟨by (with_reducible repeat (first | apply Kd.N_alloc | apply Kd.N_drewN | apply Kd.N_drew)); exact HO_19.out⟩, ⟨bU_ HB.out⟩⟩
                    rw [if_neg c71] at H
                    have c71b0 := decide_eq_false c71
                    clear c71
                    have H' := ak H
                    clear H
                    go_wp2
                    go_loopg [35, 37] k9 (fun kq v35 v37 w' => ∃ (x35_10 : Bool) (x37_10 : Int), v35 = .bool x35_10 ∧ v37 = .int .i64 x37_10 ∧ Aside0 (gSums_.l7 kq (wrap64 (Int.tmod a0 5)) ji10 x18_12 t964 t994 x32_7 x33_5 x34_7 x35_10 x37_10 = some r) ∧ Aside0 (kq ≤ k9) ∧ Aside0 (Kd.N (Kd.slice 48 (Kd.int .u64)) 35 w' w.heap.size (fun k_ => some k_ ≠ ((.slice Ao47 t964.length co47) : Value).ownBlock) (.slice Ao46 x18_12.length co46) x18_12) ∧ Aside0 (Kd.N (Kd.slice 48 (Kd.int .u64)) 35 w' w.heap.size (fun k_ => some k_ ≠ ((.slice Ao46 x18_12.length co46) : Value).ownBlock) (.slice Ao47 t964.length co47) t964) ∧ Aside0 (Below w.heap.size w w'))
                    case atStart => exact ⟨(x35_9), (0), gb_, gb_, H', ⟨Nat.le_refl _⟩, ⟨by (with_reducible repeat (first | apply Kd.N_alloc | apply Kd.N_drewN | apply Kd.N_drew)); exact HO_18.out⟩, ⟨by (with_reducible repeat (first | apply Kd.N_alloc | apply Kd.N_drewN | apply Kd.N_drew)); exact HO_19.out⟩, ⟨bU_ HB.out⟩⟩
                    case round =>
                     clear H'
                     (try clear c1); (try clear p1); (try clear q1); (try clear hx1); (try clear c2); (try clear p2); (try clear c3); (try clear p3); (try clear q3); (try clear hx3); (try clear c4); (try clear c5); (try clear c6); (try clear p6); (try clear c7); (try clear c9); (try clear p9); (try clear q9); (try clear hx9); (try clear qi9); (try clear c10); (try clear p10); (try clear q10); (try clear hx10); (try clear c11); (try clear c11b0); (try clear c11b1); (try clear c12); (try clear c12b0); (try clear c12b1); (try clear c14); (try clear c20); (try clear c23); (try clear c23b0); (try clear c23b1); (try clear c24); (try clear c24b0); (try clear c25); (try clear c25b0); (try clear c26); (try clear c26b0); (try clear c26b1); (try clear c27); (try clear c27b0); (try clear c27b1); (try clear c29); (try clear c29b0); (try clear c30); (try clear c30b0); (try clear c31); (try clear p31); (try clear q31); (try clear hx31); (try clear hf31); (try clear c32); (try clear c32b0); (try clear p33); (try clear q33); (try clear hx33); (try clear hf33); (try clear c36); (try clear hx36); (try clear hf36); (try clear c43); (try clear c43b0); (try clear c43b1); (try clear c50); (try clear c50b0); (try clear c50b1); (try clear c52); (try clear c55); (try clear p64); (try clear c65); (try clear c65b0); (try clear c65b1); (try clear c66); (try clear c66b0); (try clear c66b1); (try clear c70); (try clear c70b0); (try clear c70b1); (try clear c71); (try clear c71b0); (try clear c72); (try clear c73); (try clear c73b0); (try clear c74); (try clear c74b0); (try clear hcz60_0); (try clear hcz60_1); (try clear hfz60_0); (try clear hfz60_1); (try clear hx1007_0); (try clear hx31_0); (try clear hx33_0); (try clear hx36_0); (try clear hx975_0); (try clear hx976_0); (try clear hx977_0); (try clear hx979_0); (try clear p1007); (try clear p975); (try clear p976); (try clear p977); (try clear p979); (try clear q1007); (try clear q975); (try clear q976); (try clear q977); (try clear q979)
                     obtain ⟨x35_10, x37_10, rfl, rfl, HA, HK10, HO_18, HO_19, HB⟩ := hrel
                     cases gk with
                     | zero => exact absurd HA.out (by simp [gSums_.l7])
                     | succ k10 =>
                      have H := HA.out
                      clear HA
                      simp only [gSums_.l7] at H
                      by_cases c77 : x37_10 < ji10
                      ·rw [if_pos c77] at H
                       have c77b0 := decide_eq_true c77
                       clear c77
                       by_cases c78 : x35_10 = true
                       ·subst c78
                        rw [if_pos rfl] at H
                        obtain ⟨c79, H⟩ : (0 ≤ x37_10) ∧ _ := it_ H
                        have c79b0 := decide_eq_true c79
                        clear c79
                        obtain ⟨c80, H⟩ : (x37_10 < (t964.length : Int)) ∧ _ := it_ H
                        have c80b0 := decide_eq_true c80
                        clear c80
                        revert H
                        refine bd_ fun t1010 A81 H => ?_
                        have H' := ak H
                        clear H
                        have p1009 : 0 ≤ (x37_10 : Int) := od_
                        have q1009 : x37_10 < (t964.length : Int) := od_
                        obtain ⟨ad1009, A1009_0, c1009_0, e1009, hx1009_0, hl1009_0, hi1009_0⟩ := at_L3 (Kd.N_reads' HO_19.out).2.2 x37_10 p1009 q1009
                        cases e1009
                        obtain ⟨ce1009, hce1009, hMe1009, hcc1009⟩ := Kd.N_get HO_19.out [] x37_10 p1009 (by first | exact q1009 | exact od_ | (have e_ := (Kd.N_reads' HO_19.out).1; omega))
                        obtain ⟨ua1009_0, uc1009_0, rfl, ul1009_0, ge1009_0⟩ := Kd.FK_slice_open hMe1009
                        have hv1009_0 := hcc1009 0 _ rfl
                        rw [Nat.add_zero, show ((Kd.slice 48 (Kd.int .u64))).sz = 1 from rfl, Nat.mul_one] at hv1009_0
                        replace hv1009_0 := Option.some.inj (hv1009_0.symm.trans hx1009_0)
                        injection hv1009_0 with hva_ hvn_ hvc_
                        rw [hva_] at ge1009_0
                        rw [hvc_] at ul1009_0
                        have HL1009_0 := ak (show Kd.V (Kd.int .u64) 48 _ w.heap.size _ _ (rd_L3 t964 x37_10) from V_mk ul1009_0 ge1009_0)
                        clear hva_ hvn_ hvc_ ge1009_0 ul1009_0
                        clear hcc1009 hce1009
                        have HR1009_0 := ak hi1009_0
                        have HC1009_0 := ak hl1009_0
                        clear hi1009_0 hl1009_0
                        replace p1009 := eq_true p1009
                        replace q1009 := eq_true q1009
                        go_wp2_with (first | (go_at_call 27; (with_reducible refine (poly_Eval.calls k10 0 _ _ (rd_L3 t964 x37_10) x34_7 t1010 _ ?side1 ?side2 ?side3 A81.out).mono ?_); (case side1 => exact fU_ HG.out HB.out); (case side2 => repeat (first | exact (by repeat (first | (with_reducible exact HR1009_0.out) | (with_reducible refine Kd.C_alloc ?_ _) | (with_reducible refine Kd.C_drewN ?_ _) | (with_reducible refine Kd.C_drew ?_) | exact HR1009_0.out)) | (with_reducible refine Kd.C_alloc ?_ _) | (with_reducible refine Kd.C_drewN ?_ _) | (with_reducible refine Kd.C_drew ?_))); (case side3 => exact HC1009_0.out); rintro e w82 ⟨rfl, hb⟩; refine nx5_ (Kd.N_below (by (with_reducible repeat (first | apply Kd.N_alloc | apply Kd.N_drewN | apply Kd.N_drew)); exact HO_18.out) hb) (Kd.N_below (by (with_reducible repeat (first | apply Kd.N_alloc | apply Kd.N_drewN | apply Kd.N_drew)); exact HO_19.out) hb) (V_below (vU_ HL1009_0.out) hb) (C_below (by repeat (first | (with_reducible exact HR1009_0.out) | (with_reducible refine Kd.C_alloc ?_ _) | (with_reducible refine Kd.C_drewN ?_ _) | (with_reducible refine Kd.C_drew ?_) | exact HR1009_0.out)) hb) (below_step (bU_ HB.out) hb) ?_; clear HO_18 HO_19 HL1009_0 HR1009_0 HB; intro HO_18 HO_19 HL1009_0 HR1009_0 HB; clear hb))
                        go_roundg k10
                        case measure => have := HJ12.out; have := HK2.out; have := HJ44.out; have := HJ50.out; have := HK5.out; have := HJ63.out; have := HK7.out; have := HJ68.out; have := HK9.out; have := HK10.out; omega
                        case rel => exact ⟨(((Int.tmod (IntKind.u64.wrap (x33_5 + t1010)) 97) != 0)), (wrap64 (x37_10 + 1)), gb_, gb_, H', ⟨by have := HJ12.out; have := HK2.out; have := HJ44.out; have := HJ50.out; have := HK5.out; have := HJ63.out; have := HK7.out; have := HJ68.out; have := HK9.out; have := HK10.out; omega⟩, ⟨by (with_reducible repeat (first | apply Kd.N_alloc | apply Kd.N_drewN | apply Kd.N_drew)); exact HO_18.out⟩, ⟨by (with_reducible repeat (first | apply Kd.N_alloc | apply Kd.N_drewN | apply Kd.N_drew)); exact HO_19.out⟩, ⟨bU_ HB.out⟩⟩
                       replace c78 := Bool.eq_false_iff.mpr c78
                       subst c78
                       rw [if_neg (show ¬ (false = true) by decide)] at H
                       have H' := ak H
                       clear H
                       go_wp2
                       go_roundg k10
                       case measure => have := HJ12.out; have := HK2.out; have := HJ44.out; have := HJ50.out; have := HK5.out; have := HJ63.out; have := HK7.out; have := HJ68.out; have := HK9.out; have := HK10.out; omega
                       case rel => exact ⟨(false), (wrap64 (x37_10 + 1)), gb_, gb_, H', ⟨by have := HJ12.out; have := HK2.out; have := HJ44.out; have := HJ50.out; have := HK5.out; have := HJ63.out; have := HK7.out; have := HJ68.out; have := HK9.out; have := HK10.out; omega⟩, ⟨by (with_reducible repeat (first | apply Kd.N_alloc | apply Kd.N_drewN | apply Kd.N_drew)); exact HO_18.out⟩, ⟨by (with_reducible repeat (first | apply Kd.N_alloc | apply Kd.N_drewN | apply Kd.N_drew)); exact HO_19.out⟩, ⟨bU_ HB.out⟩⟩
                      rw [if_neg c77] at H
                      have c77b0 := decide_eq_false c77
                      clear c77
                      by_cases c83 : x35_10 = true
                      ·subst c83
                       rw [if_pos rfl] at H
                       have H' := ak H
                       clear H
                       go_wp2
                       go_roundg k10
                       case measure => have := HJ12.out; have := HK2.out; have := HJ44.out; have := HJ50.out; have := HK5.out; have := HJ63.out; have := HK7.out; have := HJ68.out; have := HK9.out; have := HK10.out; omega
                       case rel => exact ⟨(wrap64 (x32_7 + 1)), (IntKind.u64.wrap (x34_7 + 1)), gb_, gb_, H', ⟨by have := HJ12.out; have := HK2.out; have := HJ44.out; have := HJ50.out; have := HK5.out; have := HJ63.out; have := HK7.out; have := HJ68.out; have := HK9.out; have := HK10.out; omega⟩, ⟨by (with_reducible repeat (first | apply Kd.N_alloc | apply Kd.N_drewN | apply Kd.N_drew)); exact HO_18.out⟩, ⟨by (with_reducible repeat (first | apply Kd.N_alloc | apply Kd.N_drewN | apply Kd.N_drew)); exact HO_19.out⟩, ⟨bU_ HB.out⟩⟩
                      replace c83 := Bool.eq_false_iff.mpr c83
                      subst c83
                      rw [if_neg (show ¬ (false = true) by decide)] at H
                      have H' := ak H
                      clear H
                      go_wp2
                      go_roundg k10
                      case measure => have := HJ12.out; have := HK2.out; have := HJ44.out; have := HJ50.out; have := HK5.out; have := HJ63.out; have := HK7.out; have := HJ68.out; have := HK9.out; have := HK10.out; omega
                      case rel => exact ⟨(x32_7), (IntKind.u64.wrap (x34_7 + 1)), gb_, gb_, H', ⟨by have := HJ12.out; have := HK2.out; have := HJ44.out; have := HJ50.out; have := HK5.out; have := HJ63.out; have := HK7.out; have := HJ68.out; have := HK9.out; have := HK10.out; omega⟩, ⟨by (with_reducible repeat (first | apply Kd.N_alloc | apply Kd.N_drewN | apply Kd.N_drew)); exact HO_18.out⟩, ⟨by (with_reducible repeat (first | apply Kd.N_alloc | apply Kd.N_drewN | apply Kd.N_drew)); exact HO_19.out⟩, ⟨bU_ HB.out⟩⟩
     case rest =>
      clear HC42
      (try clear c1); (try clear p1); (try clear q1); (try clear hx1); (try clear c2); (try clear p2); (try clear c3); (try clear p3); (try clear q3); (try clear hx3); (try clear c4); (try clear c5); (try clear c6); (try clear p6); (try clear c7); (try clear c8); (try clear c9); (try clear p9); (try clear q9); (try clear hx9); (try clear qi9); (try clear c10); (try clear p10); (try clear q10); (try clear hx10); (try clear c11); (try clear c11b0); (try clear c11b1); (try clear c12); (try clear c12b0); (try clear c12b1); (try clear c14); (try clear c20); (try clear c23); (try clear c23b0); (try clear c23b1); (try clear c24); (try clear c24b0); (try clear c25); (try clear c25b0); (try clear c26); (try clear c26b0); (try clear c26b1); (try clear c27); (try clear c27b0); (try clear c27b1); (try clear c29); (try clear c29b0); (try clear c30); (try clear c30b0); (try clear c31); (try clear p31); (try clear q31); (try clear hx31); (try clear hf31); (try clear c32); (try clear c32b0); (try clear p33); (try clear q33); (try clear hx33); (try clear hf33); (try clear c36); (try clear hx36); (try clear hf36); (try clear c43); (try clear c43b0); (try clear c43b1); (try clear c50); (try clear c50b0); (try clear c50b1); (try clear c52); (try clear c55); (try clear p64); (try clear c65); (try clear c65b0); (try clear c65b1); (try clear c66); (try clear c66b0); (try clear c66b1); (try clear c70); (try clear c70b0); (try clear c70b1); (try clear c71); (try clear c71b0); (try clear c72); (try clear c73); (try clear c73b0); (try clear c74); (try clear c74b0); (try clear c77); (try clear c77b0); (try clear c78); (try clear c79); (try clear c79b0); (try clear c80); (try clear c80b0); (try clear c83); (try clear hcz60_0); (try clear hcz60_1); (try clear hfz60_0); (try clear hfz60_1); (try clear hx1007_0); (try clear hx1009_0); (try clear hx31_0); (try clear hx33_0); (try clear hx36_0); (try clear hx975_0); (try clear hx976_0); (try clear hx977_0); (try clear hx979_0); (try clear p1007); (try clear p1009); (try clear p975); (try clear p976); (try clear p977); (try clear p979); (try clear q1007); (try clear q1009); (try clear q975); (try clear q976); (try clear q977); (try clear q979)
      obtain ⟨kq, HA, HJ41, HO_18, HO_19, HO_20, HB⟩ := hcut
      as_aux_lemma =>
      cases kq with
      | zero => exact absurd HA.out (by simp [gSums_.j3])
      | succ kj41 =>
       have H := HA.out
       clear HA
       simp only [gSums_.j3] at H
       obtain ⟨c84, H⟩ : (0 < (t964.length : Int)) ∧ _ := it_ H
       have c84b0 := decide_eq_true c84
       have c84b1 : decide (0 < t964.length) = true := decide_eq_true (by omega)
       clear c84
       by_cases c85 : x24_2 < (wrap64 (Int.tmod a0 5))
       ·rw [if_pos c85] at H
        have c85b0 := decide_eq_true c85
        clear c85
        obtain ⟨c86, H⟩ : (0 ≤ x24_2) ∧ _ := it_ H
        have c86b0 := decide_eq_true c86
        clear c86
        obtain ⟨c87, H⟩ : (x24_2 < (x18_12.length : Int)) ∧ _ := it_ H
        have c87b0 := decide_eq_true c87
        clear c87
        have H' := ak H
        clear H
        obtain ⟨Ao88, co88, eo88⟩ := Kd.N_slice HO_19.out
        subst eo88
        have p981 : 0 ≤ (0 : Int) := (by omega)
        have q981 : 0 < (t964.length : Int) := od_
        obtain ⟨ad981, A981_0, c981_0, e981, hx981_0, hl981_0, hi981_0⟩ := at_L3 (Kd.N_reads' HO_19.out).2.2 0 p981 q981
        cases e981
        obtain ⟨ce981, hce981, hMe981, hcc981⟩ := Kd.N_get HO_19.out [] 0 p981 (by first | exact q981 | exact od_ | (have e_ := (Kd.N_reads' HO_19.out).1; omega))
        obtain ⟨ua981_0, uc981_0, rfl, ul981_0, ge981_0⟩ := Kd.FK_slice_open hMe981
        have hv981_0 := hcc981 0 _ rfl
        rw [Nat.add_zero, show ((Kd.slice 48 (Kd.int .u64))).sz = 1 from rfl, Nat.mul_one] at hv981_0
        replace hv981_0 := Option.some.inj (hv981_0.symm.trans hx981_0)
        injection hv981_0 with hva_ hvn_ hvc_
        rw [hva_] at ge981_0
        rw [hvc_] at ul981_0
        have HL981_0 := ak (show Kd.V (Kd.int .u64) 48 _ w.heap.size _ _ (rd_L3 t964 0) from V_mk ul981_0 ge981_0)
        clear hva_ hvn_ hvc_ ge981_0 ul981_0
        clear hcc981 hce981
        have qi981 : (0 < t964.length) = True := eq_true (by omega)
        (try rw [show ((0 : Int)).toNat = 0 from rfl] at hx981_0)
        (try rw [Addr.add_zero'] at hx981_0)
        have HR981_0 := ak hi981_0
        have HC981_0 := ak hl981_0
        clear hi981_0 hl981_0
        replace p981 := eq_true p981
        replace q981 := eq_true q981
        obtain ⟨Ao89, co89, eo89⟩ := Kd.N_slice HO_18.out
        subst eo89
        have p982 : 0 ≤ (x24_2 : Int) := od_
        have q982 : x24_2 < (x18_12.length : Int) := od_
        obtain ⟨ad982, A982_0, c982_0, e982, hx982_0, hl982_0, hi982_0⟩ := at_L3 (Kd.N_reads' HO_18.out).2.2 x24_2 p982 q982
        cases e982
        obtain ⟨ce982, hce982, hMe982, hcc982⟩ := Kd.N_get HO_18.out [] x24_2 p982 (by first | exact q982 | exact od_ | (have e_ := (Kd.N_reads' HO_18.out).1; omega))
        obtain ⟨ua982_0, uc982_0, rfl, ul982_0, ge982_0⟩ := Kd.FK_slice_open hMe982
        have hv982_0 := hcc982 0 _ rfl
        rw [Nat.add_zero, show ((Kd.slice 48 (Kd.int .u64))).sz = 1 from rfl, Nat.mul_one] at hv982_0
        replace hv982_0 := Option.some.inj (hv982_0.symm.trans hx982_0)
        injection hv982_0 with hva_ hvn_ hvc_
        rw [hva_] at ge982_0
        rw [hvc_] at ul982_0
        have HL982_0 := ak (show Kd.V (Kd.int .u64) 48 _ w.heap.size _ _ (rd_L3 x18_12 x24_2) from V_mk ul982_0 ge982_0)
        clear hva_ hvn_ hvc_ ge982_0 ul982_0
        clear hcc982 hce982
        have HR982_0 := ak hi982_0
        have HC982_0 := ak hl982_0
        clear hi982_0 hl982_0
        replace p982 := eq_true p982
        replace q982 := eq_true q982
        go_wp2
        go_loopg [26, 27] kj41 (fun kq v26 v27 w' => ∃ (x26_4 : Int) (x27_4 : Int), v26 = .int .u64 x26_4 ∧ v27 = .int .i64 x27_4 ∧ Aside0 (gSums_.l2 kq (wrap64 (Int.tmod a0 5)) ji10 (wrap64 (1 + (wrap64 (Int.tmod a2 2)))) x18_12 t964 x20_12 x23_2 x24_2 (rd_L3 x18_12 x24_2) x26_4 x27_4 = some r) ∧ Aside0 (kq ≤ kj41) ∧ Aside0 (Kd.N (Kd.slice 48 (Kd.int .u64)) 35 w' w.heap.size (fun k_ => some k_ ≠ ((.slice (some ad981) t964.length co88) : Value).ownBlock ∧ some k_ ≠ (u20 : Value).ownBlock) (.slice (some ad982) x18_12.length co89) x18_12) ∧ Aside0 (Kd.N (Kd.slice 48 (Kd.int .u64)) 35 w' w.heap.size (fun k_ => some k_ ≠ ((.slice (some ad982) x18_12.length co89) : Value).ownBlock ∧ some k_ ≠ (u20 : Value).ownBlock) (.slice (some ad981) t964.length co88) t964) ∧ Aside0 (Kd.R (Kd.int .u64) 48 w' w.heap.size (fun _ => True) u20 x20_12) ∧ Aside0 (Kd.C (Kd.int .u64) w' A981_0 (rd_L3 t964 0).length (rd_L3 t964 0)) ∧ Aside0 (Kd.C (Kd.int .u64) w' A982_0 (rd_L3 x18_12 x24_2).length (rd_L3 x18_12 x24_2)) ∧ Aside0 (Below w.heap.size w w'))
        case atStart => exact ⟨(0), (0), gb_, gb_, H', ⟨Nat.le_refl _⟩, ⟨by (with_reducible repeat (first | apply Kd.N_alloc | apply Kd.N_drewN | apply Kd.N_drew)); exact HO_18.out⟩, ⟨by (with_reducible repeat (first | apply Kd.N_alloc | apply Kd.N_drewN | apply Kd.N_drew)); exact HO_19.out⟩, ⟨rU_ HO_20.out⟩, ⟨by repeat (first | (with_reducible exact HR981_0.out) | (with_reducible refine Kd.C_alloc ?_ _) | (with_reducible refine Kd.C_drewN ?_ _) | (with_reducible refine Kd.C_drew ?_) | exact HR981_0.out)⟩, ⟨by repeat (first | (with_reducible exact HR982_0.out) | (with_reducible refine Kd.C_alloc ?_ _) | (with_reducible refine Kd.C_drewN ?_ _) | (with_reducible refine Kd.C_drew ?_) | exact HR982_0.out)⟩, ⟨bU_ HB.out⟩⟩
        case round =>
         clear H'
         (try clear c1); (try clear p1); (try clear q1); (try clear hx1); (try clear c2); (try clear p2); (try clear c3); (try clear p3); (try clear q3); (try clear hx3); (try clear c4); (try clear c5); (try clear c6); (try clear p6); (try clear c7); (try clear c8); (try clear c9); (try clear p9); (try clear q9); (try clear hx9); (try clear qi9); (try clear c10); (try clear p10); (try clear q10); (try clear hx10); (try clear c11); (try clear c11b0); (try clear c11b1); (try clear c12); (try clear c12b0); (try clear c12b1); (try clear c14); (try clear c20); (try clear c23); (try clear c23b0); (try clear c23b1); (try clear c24); (try clear c24b0); (try clear c25); (try clear c25b0); (try clear c26); (try clear c26b0); (try clear c26b1); (try clear c27); (try clear c27b0); (try clear c27b1); (try clear c29); (try clear c29b0); (try clear c30); (try clear c30b0); (try clear c31); (try clear p31); (try clear q31); (try clear hx31); (try clear hf31); (try clear c32); (try clear c32b0); (try clear p33); (try clear q33); (try clear hx33); (try clear hf33); (try clear c36); (try clear hx36); (try clear hf36); (try clear c43); (try clear c43b0); (try clear c43b1); (try clear c50); (try clear c50b0); (try clear c50b1); (try clear c52); (try clear c55); (try clear p64); (try clear c65); (try clear c65b0); (try clear c65b1); (try clear c66); (try clear c66b0); (try clear c66b1); (try clear c70); (try clear c70b0); (try clear c70b1); (try clear c71); (try clear c71b0); (try clear c72); (try clear c73); (try clear c73b0); (try clear c74); (try clear c74b0); (try clear c77); (try clear c77b0); (try clear c78); (try clear c79); (try clear c79b0); (try clear c80); (try clear c80b0); (try clear c83); (try clear c84); (try clear c84b0); (try clear c84b1); (try clear c85); (try clear c85b0); (try clear c86); (try clear c86b0); (try clear c87); (try clear c87b0); (try clear hcz60_0); (try clear hcz60_1); (try clear hfz60_0); (try clear hfz60_1); (try clear hx1007_0); (try clear hx1009_0); (try clear hx31_0); (try clear hx33_0); (try clear hx36_0); (try clear hx975_0); (try clear hx976_0); (try clear hx977_0); (try clear hx979_0); (try clear hx981_0); (try clear hx982_0); (try clear p1007); (try clear p1009); (try clear p975); (try clear p976); (try clear p977); (try clear p979); (try clear p981); (try clear p982); (try clear q1007); (try clear q1009); (try clear q975); (try clear q976); (try clear q977); (try clear q979); (try clear q981); (try clear q982)
         obtain ⟨x26_4, x27_4, rfl, rfl, HA, HK4, HO_18, HO_19, HO_20, HR981_0, HR982_0, HB⟩ := hrel
         cases gk with
         | zero => exact absurd HA.out (by simp [gSums_.l2])
         | succ k4 =>
          have H := HA.out
          clear HA
          simp only [gSums_.l2] at H
          have HC90 := ak H
          clear H
          go_upto_if 117 with (fail)
          go_cut [] (fun wc => ∃ (kq : Nat), Aside0 (gSums_.j5 kq (wrap64 (Int.tmod a0 5)) ji10 (wrap64 (1 + (wrap64 (Int.tmod a2 2)))) x18_12 t964 x20_12 x23_2 x24_2 (rd_L3 x18_12 x24_2) x26_4 x27_4 = some r) ∧ Aside0 (kq ≤ k4) ∧ Aside0 (Kd.N (Kd.slice 48 (Kd.int .u64)) 35 wc w.heap.size (fun k_ => some k_ ≠ ((.slice (some ad981) t964.length co88) : Value).ownBlock ∧ some k_ ≠ (u20 : Value).ownBlock) (.slice (some ad982) x18_12.length co89) x18_12) ∧ Aside0 (Kd.N (Kd.slice 48 (Kd.int .u64)) 35 wc w.heap.size (fun k_ => some k_ ≠ ((.slice (some ad982) x18_12.length co89) : Value).ownBlock ∧ some k_ ≠ (u20 : Value).ownBlock) (.slice (some ad981) t964.length co88) t964) ∧ Aside0 (Kd.R (Kd.int .u64) 48 wc w.heap.size (fun _ => True) u20 x20_12) ∧ Aside0 (Kd.C (Kd.int .u64) wc A981_0 (rd_L3 t964 0).length (rd_L3 t964 0)) ∧ Aside0 (Kd.C (Kd.int .u64) wc A982_0 (rd_L3 x18_12 x24_2).length (rd_L3 x18_12 x24_2)) ∧ Aside0 (Below w.heap.size w wc))
          case first =>
           have H := HC90.out
           clear HC90
           by_cases c91 : x27_4 < ji10
           ·rw [if_pos c91] at H
            have c91b0 := decide_eq_true c91
            clear c91
            (first | rw [c91b0] | (simp only [i64_w, i32_w]; rw [c91b0]) | rw [c91b1] | skip)
            have H' := ak H
            clear H
            go_wp2
            go_meet
            case rel => exact ⟨_, H', ⟨by have := HJ12.out; have := HK2.out; have := HJ41.out; have := HK4.out; first | omega | exact Nat.le_refl _⟩, ⟨by (with_reducible repeat (first | apply Kd.N_alloc | apply Kd.N_drewN | apply Kd.N_drew)); exact HO_18.out⟩, ⟨by (with_reducible repeat (first | apply Kd.N_alloc | apply Kd.N_drewN | apply Kd.N_drew)); exact HO_19.out⟩, ⟨rU_ HO_20.out⟩, ⟨by repeat (first | (with_reducible exact HR981_0.out) | (with_reducible refine Kd.C_alloc ?_ _) | (with_reducible refine Kd.C_drewN ?_ _) | (with_reducible refine Kd.C_drew ?_) | exact HR981_0.out)⟩, ⟨by repeat (first | (with_reducible exact HR982_0.out) | (with_reducible refine Kd.C_alloc ?_ _) | (with_reducible refine Kd.C_drewN ?_ _) | (with_reducible refine Kd.C_drew ?_) | exact HR982_0.out)⟩, ⟨bU_ HB.out⟩⟩
           rw [if_neg c91] at H
           have c91b0 := decide_eq_false c91
           clear c91
           (first | rw [c91b0] | (simp only [i64_w, i32_w]; rw [c91b0]) | rw [c91b1] | skip)
           by_cases c92 : x23_2 = true
           ·subst c92
            rw [if_pos rfl] at H
            revert H
            refine bd_ fun t983 A93 H => ?_
            have H' := ak H
            clear H
            go_wp2_with (first | (go_at_call 21; (with_reducible refine (a11often.calls k4 _ _ (rd_L3 x18_12 x24_2) _ _ x18_12 t983 _ ?side1 ?side2 ?side3 ?side4 A93.out).mono ?_); (case side1 => first | first | exact cU_ (C_below HR982_0.out HB.out) | exact cU_ HR982_0.out | exact cU_ HR982_0.out); (case side2 => exact HC982_0.out); (case side3 => exact cU_ ((Kd.N_reads' HO_18.out).2.2)); (case side4 => exact (Kd.N_reads' HO_18.out).2.1); rintro e w' ⟨rfl, ⟨nd, rfl⟩⟩))
            go_roundg k4
            case measure => have := HJ12.out; have := HK2.out; have := HJ41.out; have := HK4.out; omega
            case rel => exact ⟨((x26_4 == (Int.tmod (IntKind.u64.wrap (t983)) 97))), (wrap64 (x24_2 + 1)), gb_, gb_, H', ⟨by have := HJ12.out; have := HK2.out; have := HJ41.out; have := HK4.out; omega⟩, ⟨by (with_reducible repeat (first | apply Kd.N_alloc | apply Kd.N_drewN | apply Kd.N_drew)); exact HO_18.out⟩, ⟨by (with_reducible repeat (first | apply Kd.N_alloc | apply Kd.N_drewN | apply Kd.N_drew)); exact HO_19.out⟩, ⟨rU_ HO_20.out⟩, ⟨bU_ HB.out⟩⟩
           replace c92 := Bool.eq_false_iff.mpr c92
           subst c92
           rw [if_neg (show ¬ (false = true) by decide)] at H
           have H' := ak H
           clear H
           go_wp2
           go_roundg k4
           case measure => have := HJ12.out; have := HK2.out; have := HJ41.out; have := HK4.out; omega
           case rel => exact ⟨(false), (wrap64 (x24_2 + 1)), gb_, gb_, H', ⟨by have := HJ12.out; have := HK2.out; have := HJ41.out; have := HK4.out; omega⟩, ⟨by (with_reducible repeat (first | apply Kd.N_alloc | apply Kd.N_drewN | apply Kd.N_drew)); exact HO_18.out⟩, ⟨by (with_reducible repeat (first | apply Kd.N_alloc | apply Kd.N_drewN | apply Kd.N_drew)); exact HO_19.out⟩, ⟨rU_ HO_20.out⟩, ⟨bU_ HB.out⟩⟩
          case rest =>
           clear HC90
           (try clear c1); (try clear p1); (try clear q1); (try clear hx1); (try clear c2); (try clear p2); (try clear c3); (try clear p3); (try clear q3); (try clear hx3); (try clear c4); (try clear c5); (try clear c6); (try clear p6); (try clear c7); (try clear c8); (try clear c9); (try clear p9); (try clear q9); (try clear hx9); (try clear qi9); (try clear c10); (try clear p10); (try clear q10); (try clear hx10); (try clear c11); (try clear c11b0); (try clear c11b1); (try clear c12); (try clear c12b0); (try clear c12b1); (try clear c14); (try clear c20); (try clear c23); (try clear c23b0); (try clear c23b1); (try clear c24); (try clear c24b0); (try clear c25); (try clear c25b0); (try clear c26); (try clear c26b0); (try clear c26b1); (try clear c27); (try clear c27b0); (try clear c27b1); (try clear c29); (try clear c29b0); (try clear c30); (try clear c30b0); (try clear c31); (try clear p31); (try clear q31); (try clear hx31); (try clear hf31); (try clear c32); (try clear c32b0); (try clear p33); (try clear q33); (try clear hx33); (try clear hf33); (try clear c36); (try clear hx36); (try clear hf36); (try clear c43); (try clear c43b0); (try clear c43b1); (try clear c50); (try clear c50b0); (try clear c50b1); (try clear c52); (try clear c55); (try clear p64); (try clear c65); (try clear c65b0); (try clear c65b1); (try clear c66); (try clear c66b0); (try clear c66b1); (try clear c70); (try clear c70b0); (try clear c70b1); (try clear c71); (try clear c71b0); (try clear c72); (try clear c73); (try clear c73b0); (try clear c74); (try clear c74b0); (try clear c77); (try clear c77b0); (try clear c78); (try clear c79); (try clear c79b0); (try clear c80); (try clear c80b0); (try clear c83); (try clear c84); (try clear c84b0); (try clear c84b1); (try clear c85); (try clear c85b0); (try clear c86); (try clear c86b0); (try clear c87); (try clear c87b0); (try clear c91); (try clear c91b0); (try clear c91b1); (try clear c92); (try clear hcz60_0); (try clear hcz60_1); (try clear hfz60_0); (try clear hfz60_1); (try clear hx1007_0); (try clear hx1009_0); (try clear hx31_0); (try clear hx33_0); (try clear hx36_0); (try clear hx975_0); (try clear hx976_0); (try clear hx977_0); (try clear hx979_0); (try clear hx981_0); (try clear hx982_0); (try clear p1007); (try clear p1009); (try clear p975); (try clear p976); (try clear p977); (try clear p979); (try clear p981); (try clear p982); (try clear q1007); (try clear q1009); (try clear q975); (try clear q976); (try clear q977); (try clear q979); (try clear q981); (try clear q982)
           obtain ⟨kq, HA, HJ89, HO_18, HO_19, HO_20, HR981_0, HR982_0, HB⟩ := hcut
           as_aux_lemma =>
           cases kq with
           | zero => exact absurd HA.out (by simp [gSums_.j5])
           | succ kj89 =>
            have H := HA.out
            clear HA
            simp only [gSums_.j5] at H
            obtain ⟨c94, H⟩ : (0 ≤ x27_4) ∧ _ := it_ H
            have c94b0 := decide_eq_true c94
            clear c94
            obtain ⟨c95, H⟩ : (x27_4 < (t964.length : Int)) ∧ _ := it_ H
            have c95b0 := decide_eq_true c95
            clear c95
            revert H
            refine bd_ fun t985 A96 H => ?_
            by_cases c97 : t985 = true
            ·subst c97
             rw [if_pos rfl] at H
             obtain ⟨c98, H⟩ : (x27_4 < (x20_12.length : Int)) ∧ _ := it_ H
             have c98b0 := decide_eq_true c98
             clear c98
             revert H
             refine bd_ fun t987 A99 H => ?_
             have H' := ak H
             clear H
             have p984 : 0 ≤ (x27_4 : Int) := od_
             have q984 : x27_4 < (t964.length : Int) := od_
             obtain ⟨ad984, A984_0, c984_0, e984, hx984_0, hl984_0, hi984_0⟩ := at_L3 (Kd.N_reads' HO_19.out).2.2 x27_4 p984 q984
             obtain rfl : ad981 = ad984 := (by injection e984)
             obtain ⟨ce984, hce984, hMe984, hcc984⟩ := Kd.N_get HO_19.out [] x27_4 p984 (by first | exact q984 | exact od_ | (have e_ := (Kd.N_reads' HO_19.out).1; omega))
             obtain ⟨ua984_0, uc984_0, rfl, ul984_0, ge984_0⟩ := Kd.FK_slice_open hMe984
             have hv984_0 := hcc984 0 _ rfl
             rw [Nat.add_zero, show ((Kd.slice 48 (Kd.int .u64))).sz = 1 from rfl, Nat.mul_one] at hv984_0
             replace hv984_0 := Option.some.inj (hv984_0.symm.trans hx984_0)
             injection hv984_0 with hva_ hvn_ hvc_
             rw [hva_] at ge984_0
             rw [hvc_] at ul984_0
             have HL984_0 := ak (show Kd.V (Kd.int .u64) 48 _ w.heap.size _ _ (rd_L3 t964 x27_4) from V_mk ul984_0 ge984_0)
             clear hva_ hvn_ hvc_ ge984_0 ul984_0
             clear hcc984 hce984
             have HR984_0 := ak hi984_0
             have HC984_0 := ak hl984_0
             clear hi984_0 hl984_0
             replace p984 := eq_true p984
             replace q984 := eq_true q984
             go_wp2_with (first | ((with_reducible refine gate_callee (f := 24) rfl ?_); refine gl_ (some 125) Tryd.func24 #[.slice A982_0 (rd_L3 x18_12 x24_2).length c982_0, .slice A984_0 (rd_L3 t964 x27_4).length c984_0] ?_; (with_reducible refine (a11equal.calls kj89 _ _ (rd_L3 x18_12 x24_2) _ _ (rd_L3 t964 x27_4) true _ ?side1 ?side2 ?side3 ?side4 A96.out).mono ?_); (case side1 => first | first | exact cU_ (C_below HR982_0.out HB.out) | exact cU_ HR982_0.out | exact cU_ HR982_0.out); (case side2 => exact HC982_0.out); (case side3 => repeat (first | exact (by repeat (first | (with_reducible exact HR984_0.out) | (with_reducible refine Kd.C_alloc ?_ _) | (with_reducible refine Kd.C_drewN ?_ _) | (with_reducible refine Kd.C_drew ?_) | exact HR984_0.out)) | (with_reducible refine Kd.C_alloc ?_ _) | (with_reducible refine Kd.C_drewN ?_ _) | (with_reducible refine Kd.C_drew ?_))); (case side4 => exact HC984_0.out); rintro e w' ⟨rfl, ⟨nd, rfl⟩⟩; refine ⟨_, rfl, ?_⟩; obtain ⟨Ao101, co101, eo101⟩ := R_slice HO_20.out; subst eo101; have pfr100 : 0 ≤ (x27_4 : Int) := od_; have qfr100 : (x27_4 : Int) < ((x20_12.length : Int) : Int) := od_; obtain ⟨gofr100, cofr100, eofr100, gbfr100, glfr100, clfr100, HGfr100⟩ := Kd.R_form HO_20.out (by omega); (first | cases eofr100 | (injection eofr100 with ea_ en_ ec_; (first | subst ea_ | (injection ea_ with ea_; subst ea_)); subst ec_; clear en_)); have GBfr100 := ak gbfr100; have GGfr100 := ak HGfr100; clear gbfr100 glfr100 HGfr100; clear pfr100 qfr100; have p986 : 0 ≤ (x27_4 : Int) := od_; have q986 : x27_4 < (x20_12.length : Int) := od_; obtain ⟨ad986, e986, hx986_0⟩ := Kd.at_int (R_reads' HO_20.out).2.2 x27_4 p986 q986; obtain rfl : (⟨gofr100, 0, none⟩ : Addr) = ad986 := (by injection e986); (first | simp only [add_plain] at hx986_0 | simp only [add_at] at hx986_0 | simp only [Addr.add, Nat.zero_add] at hx986_0 | skip); replace p986 := eq_true p986; replace q986 := eq_true q986) | ((with_reducible refine gate_callee (f := 25) rfl ?_); refine gl_ (some 131) Tryd.func25 #[.int .i64 0, .int .u64 x26_4, .int .u64 (rd x20_12 x27_4)] ?_; (with_reducible refine (field_Add.calls 0 x26_4 (rd x20_12 x27_4) t987 _ ?side1 A99.out).mono ?_); (case side1 => exact fU_ HG.out HB.out); rintro e w102 ⟨rfl, hb⟩; refine ⟨_, rfl, ?_⟩; refine nx8_ (Kd.N_below (by (with_reducible repeat (first | apply Kd.N_alloc | apply Kd.N_drewN | apply Kd.N_drew)); exact HO_18.out) hb) (Kd.N_below (by (with_reducible repeat (first | apply Kd.N_alloc | apply Kd.N_drewN | apply Kd.N_drew)); exact HO_19.out) hb) (R_below (rU_ HO_20.out) hb) (V_below (vU_ HL984_0.out) hb) (C_below (by repeat (first | (with_reducible exact HR981_0.out) | (with_reducible refine Kd.C_alloc ?_ _) | (with_reducible refine Kd.C_drewN ?_ _) | (with_reducible refine Kd.C_drew ?_) | exact HR981_0.out)) hb) (C_below (by repeat (first | (with_reducible exact HR982_0.out) | (with_reducible refine Kd.C_alloc ?_ _) | (with_reducible refine Kd.C_drewN ?_ _) | (with_reducible refine Kd.C_drew ?_) | exact HR982_0.out)) hb) (C_below (by repeat (first | (with_reducible exact HR984_0.out) | (with_reducible refine Kd.C_alloc ?_ _) | (with_reducible refine Kd.C_drewN ?_ _) | (with_reducible refine Kd.C_drew ?_) | exact HR984_0.out)) hb) (below_step (bU_ HB.out) hb) ?_; clear HO_18 HO_19 HO_20 HL984_0 HR981_0 HR982_0 HR984_0 HB; intro HO_18 HO_19 HO_20 HL984_0 HR981_0 HR982_0 HR984_0 HB; clear hb))
             go_roundg kj89
             case measure => have := HJ12.out; have := HK2.out; have := HJ41.out; have := HK4.out; have := HJ89.out; omega
             case rel => exact ⟨(t987), (wrap64 (x27_4 + 1)), gb_, gb_, H', ⟨by have := HJ12.out; have := HK2.out; have := HJ41.out; have := HK4.out; have := HJ89.out; omega⟩, ⟨by (with_reducible repeat (first | apply Kd.N_alloc | apply Kd.N_drewN | apply Kd.N_drew)); exact HO_18.out⟩, ⟨by (with_reducible repeat (first | apply Kd.N_alloc | apply Kd.N_drewN | apply Kd.N_drew)); exact HO_19.out⟩, ⟨rU_ HO_20.out⟩, ⟨by repeat (first | (with_reducible exact HR981_0.out) | (with_reducible refine Kd.C_alloc ?_ _) | (with_reducible refine Kd.C_drewN ?_ _) | (with_reducible refine Kd.C_drew ?_) | exact HR981_0.out)⟩, ⟨by repeat (first | (with_reducible exact HR982_0.out) | (with_reducible refine Kd.C_alloc ?_ _) | (with_reducible refine Kd.C_drewN ?_ _) | (with_reducible refine Kd.C_drew ?_) | exact HR982_0.out)⟩, ⟨bU_ HB.out⟩⟩
            replace c97 := Bool.eq_false_iff.mpr c97
            subst c97
            rw [if_neg (show ¬ (false = true) by decide)] at H
            have H' := ak H
            clear H
            have p984 : 0 ≤ (x27_4 : Int) := od_
            have q984 : x27_4 < (t964.length : Int) := od_
            obtain ⟨ad984, A984_0, c984_0, e984, hx984_0, hl984_0, hi984_0⟩ := at_L3 (Kd.N_reads' HO_19.out).2.2 x27_4 p984 q984
            obtain rfl : ad981 = ad984 := (by injection e984)
            obtain ⟨ce984, hce984, hMe984, hcc984⟩ := Kd.N_get HO_19.out [] x27_4 p984 (by first | exact q984 | exact od_ | (have e_ := (Kd.N_reads' HO_19.out).1; omega))
            obtain ⟨ua984_0, uc984_0, rfl, ul984_0, ge984_0⟩ := Kd.FK_slice_open hMe984
            have hv984_0 := hcc984 0 _ rfl
            rw [Nat.add_zero, show ((Kd.slice 48 (Kd.int .u64))).sz = 1 from rfl, Nat.mul_one] at hv984_0
            replace hv984_0 := Option.some.inj (hv984_0.symm.trans hx984_0)
            injection hv984_0 with hva_ hvn_ hvc_
            rw [hva_] at ge984_0
            rw [hvc_] at ul984_0
            have HL984_0 := ak (show Kd.V (Kd.int .u64) 48 _ w.heap.size _ _ (rd_L3 t964 x27_4) from V_mk ul984_0 ge984_0)
            clear hva_ hvn_ hvc_ ge984_0 ul984_0
            clear hcc984 hce984
            have HR984_0 := ak hi984_0
            have HC984_0 := ak hl984_0
            clear hi984_0 hl984_0
            replace p984 := eq_true p984
            replace q984 := eq_true q984
            go_wp2_with (first | ((with_reducible refine gate_callee (f := 24) rfl ?_); refine gl_ (some 125) Tryd.func24 #[.slice A982_0 (rd_L3 x18_12 x24_2).length c982_0, .slice A984_0 (rd_L3 t964 x27_4).length c984_0] ?_; (with_reducible refine (a11equal.calls kj89 _ _ (rd_L3 x18_12 x24_2) _ _ (rd_L3 t964 x27_4) false _ ?side1 ?side2 ?side3 ?side4 A96.out).mono ?_); (case side1 => first | first | exact cU_ (C_below HR982_0.out HB.out) | exact cU_ HR982_0.out | exact cU_ HR982_0.out); (case side2 => exact HC982_0.out); (case side3 => repeat (first | exact (by repeat (first | (with_reducible exact HR984_0.out) | (with_reducible refine Kd.C_alloc ?_ _) | (with_reducible refine Kd.C_drewN ?_ _) | (with_reducible refine Kd.C_drew ?_) | exact HR984_0.out)) | (with_reducible refine Kd.C_alloc ?_ _) | (with_reducible refine Kd.C_drewN ?_ _) | (with_reducible refine Kd.C_drew ?_))); (case side4 => exact HC984_0.out); rintro e w' ⟨rfl, ⟨nd, rfl⟩⟩; refine ⟨_, rfl, ?_⟩))
            go_roundg kj89
            case measure => have := HJ12.out; have := HK2.out; have := HJ41.out; have := HK4.out; have := HJ89.out; omega
            case rel => exact ⟨(x26_4), (wrap64 (x27_4 + 1)), gb_, gb_, H', ⟨by have := HJ12.out; have := HK2.out; have := HJ41.out; have := HK4.out; have := HJ89.out; omega⟩, ⟨by (with_reducible repeat (first | apply Kd.N_alloc | apply Kd.N_drewN | apply Kd.N_drew)); exact HO_18.out⟩, ⟨by (with_reducible repeat (first | apply Kd.N_alloc | apply Kd.N_drewN | apply Kd.N_drew)); exact HO_19.out⟩, ⟨rU_ HO_20.out⟩, ⟨by repeat (first | (with_reducible exact HR981_0.out) | (with_reducible refine Kd.C_alloc ?_ _) | (with_reducible refine Kd.C_drewN ?_ _) | (with_reducible refine Kd.C_drew ?_) | exact HR981_0.out)⟩, ⟨by repeat (first | (with_reducible exact HR982_0.out) | (with_reducible refine Kd.C_alloc ?_ _) | (with_reducible refine Kd.C_drewN ?_ _) | (with_reducible refine Kd.C_drew ?_) | exact HR982_0.out)⟩, ⟨bU_ HB.out⟩⟩
       rw [if_neg c85] at H
       have c85b0 := decide_eq_false c85
       clear c85
       obtain ⟨ji103, hji103⟩ : ∃ j_ : Int, (wrap64 (x24_2 - (wrap64 (Int.tmod a0 5)))) = j_ := ⟨_, rfl⟩
       first | rw [hji103] at H | simp only [hji103] at H
       have hji103w : (IntKind.i64.wrap (x24_2 - (wrap64 (Int.tmod a0 5)))) = ji103 := (i64_w _).trans hji103
       obtain ⟨c104, H⟩ : (0 ≤ (ji103)) ∧ _ := it_ H
       have c104b0 := decide_eq_true c104
       clear c104
       obtain ⟨c105, H⟩ : ((ji103) < (t964.length : Int)) ∧ _ := it_ H
       have c105b0 := decide_eq_true c105
       clear c105
       have H' := ak H
       clear H
       obtain ⟨Ao106, co106, eo106⟩ := Kd.N_slice HO_19.out
       subst eo106
       have p981 : 0 ≤ (0 : Int) := (by omega)
       have q981 : 0 < (t964.length : Int) := od_
       obtain ⟨ad981, A981_0, c981_0, e981, hx981_0, hl981_0, hi981_0⟩ := at_L3 (Kd.N_reads' HO_19.out).2.2 0 p981 q981
       cases e981
       obtain ⟨ce981, hce981, hMe981, hcc981⟩ := Kd.N_get HO_19.out [] 0 p981 (by first | exact q981 | exact od_ | (have e_ := (Kd.N_reads' HO_19.out).1; omega))
       obtain ⟨ua981_0, uc981_0, rfl, ul981_0, ge981_0⟩ := Kd.FK_slice_open hMe981
       have hv981_0 := hcc981 0 _ rfl
       rw [Nat.add_zero, show ((Kd.slice 48 (Kd.int .u64))).sz = 1 from rfl, Nat.mul_one] at hv981_0
       replace hv981_0 := Option.some.inj (hv981_0.symm.trans hx981_0)
       injection hv981_0 with hva_ hvn_ hvc_
       rw [hva_] at ge981_0
       rw [hvc_] at ul981_0
       have HL981_0 := ak (show Kd.V (Kd.int .u64) 48 _ w.heap.size _ _ (rd_L3 t964 0) from V_mk ul981_0 ge981_0)
       clear hva_ hvn_ hvc_ ge981_0 ul981_0
       clear hcc981 hce981
       have qi981 : (0 < t964.length) = True := eq_true (by omega)
       (try rw [show ((0 : Int)).toNat = 0 from rfl] at hx981_0)
       (try rw [Addr.add_zero'] at hx981_0)
       have HR981_0 := ak hi981_0
       have HC981_0 := ak hl981_0
       clear hi981_0 hl981_0
       replace p981 := eq_true p981
       replace q981 := eq_true q981
       have p988 : 0 ≤ ((ji103) : Int) := od_
       have q988 : (ji103) < (t964.length : Int) := od_
       obtain ⟨ad988, A988_0, c988_0, e988, hx988_0, hl988_0, hi988_0⟩ := at_L3 (Kd.N_reads' HO_19.out).2.2 (ji103) p988 q988
       obtain rfl : ad981 = ad988 := (by injection e988)
       obtain ⟨ce988, hce988, hMe988, hcc988⟩ := Kd.N_get HO_19.out [] (ji103) p988 (by first | exact q988 | exact od_ | (have e_ := (Kd.N_reads' HO_19.out).1; omega))
       obtain ⟨ua988_0, uc988_0, rfl, ul988_0, ge988_0⟩ := Kd.FK_slice_open hMe988
       have hv988_0 := hcc988 0 _ rfl
       rw [Nat.add_zero, show ((Kd.slice 48 (Kd.int .u64))).sz = 1 from rfl, Nat.mul_one] at hv988_0
       replace hv988_0 := Option.some.inj (hv988_0.symm.trans hx988_0)
       injection hv988_0 with hva_ hvn_ hvc_
       rw [hva_] at ge988_0
       rw [hvc_] at ul988_0
       have HL988_0 := ak (show Kd.V (Kd.int .u64) 48 _ w.heap.size _ _ (rd_L3 t964 (ji103)) from V_mk ul988_0 ge988_0)
       clear hva_ hvn_ hvc_ ge988_0 ul988_0
       clear hcc988 hce988
       have HR988_0 := ak hi988_0
       have HC988_0 := ak hl988_0
       clear hi988_0 hl988_0
       replace p988 := eq_true p988
       replace q988 := eq_true q988
       go_wp2
       go_loopg [26, 27] kj41 (fun kq v26 v27 w' => ∃ (x26_4 : Int) (x27_4 : Int), v26 = .int .u64 x26_4 ∧ v27 = .int .i64 x27_4 ∧ Aside0 (gSums_.l3 kq (wrap64 (Int.tmod a0 5)) ji10 (wrap64 (1 + (wrap64 (Int.tmod a2 2)))) x18_12 t964 x20_12 x23_2 x24_2 (rd_L3 t964 (ji103)) x26_4 x27_4 = some r) ∧ Aside0 (kq ≤ kj41) ∧ Aside0 (Kd.N (Kd.slice 48 (Kd.int .u64)) 35 w' w.heap.size (fun k_ => some k_ ≠ ((.slice (some ad981) t964.length co106) : Value).ownBlock ∧ some k_ ≠ (u20 : Value).ownBlock) v962 x18_12) ∧ Aside0 (Kd.N (Kd.slice 48 (Kd.int .u64)) 35 w' w.heap.size (fun k_ => some k_ ≠ (v962 : Value).ownBlock ∧ some k_ ≠ (u20 : Value).ownBlock) (.slice (some ad981) t964.length co106) t964) ∧ Aside0 (Kd.R (Kd.int .u64) 48 w' w.heap.size (fun _ => True) u20 x20_12) ∧ Aside0 (Kd.C (Kd.int .u64) w' A981_0 (rd_L3 t964 0).length (rd_L3 t964 0)) ∧ Aside0 (Kd.C (Kd.int .u64) w' A988_0 (rd_L3 t964 (ji103)).length (rd_L3 t964 (ji103))) ∧ Aside0 (Below w.heap.size w w'))
       case atStart => exact ⟨(0), (0), gb_, gb_, H', ⟨Nat.le_refl _⟩, ⟨by (with_reducible repeat (first | apply Kd.N_alloc | apply Kd.N_drewN | apply Kd.N_drew)); exact HO_18.out⟩, ⟨by (with_reducible repeat (first | apply Kd.N_alloc | apply Kd.N_drewN | apply Kd.N_drew)); exact HO_19.out⟩, ⟨rU_ HO_20.out⟩, ⟨by repeat (first | (with_reducible exact HR981_0.out) | (with_reducible refine Kd.C_alloc ?_ _) | (with_reducible refine Kd.C_drewN ?_ _) | (with_reducible refine Kd.C_drew ?_) | exact HR981_0.out)⟩, ⟨by repeat (first | (with_reducible exact HR988_0.out) | (with_reducible refine Kd.C_alloc ?_ _) | (with_reducible refine Kd.C_drewN ?_ _) | (with_reducible refine Kd.C_drew ?_) | exact HR988_0.out)⟩, ⟨bU_ HB.out⟩⟩
       case round =>
        clear H'
        (try clear c1); (try clear p1); (try clear q1); (try clear hx1); (try clear c2); (try clear p2); (try clear c3); (try clear p3); (try clear q3); (try clear hx3); (try clear c4); (try clear c5); (try clear c6); (try clear p6); (try clear c7); (try clear c8); (try clear c9); (try clear p9); (try clear q9); (try clear hx9); (try clear qi9); (try clear c10); (try clear p10); (try clear q10); (try clear hx10); (try clear c11); (try clear c11b0); (try clear c11b1); (try clear c12); (try clear c12b0); (try clear c12b1); (try clear c14); (try clear c20); (try clear c23); (try clear c23b0); (try clear c23b1); (try clear c24); (try clear c24b0); (try clear c25); (try clear c25b0); (try clear c26); (try clear c26b0); (try clear c26b1); (try clear c27); (try clear c27b0); (try clear c27b1); (try clear c29); (try clear c29b0); (try clear c30); (try clear c30b0); (try clear c31); (try clear p31); (try clear q31); (try clear hx31); (try clear hf31); (try clear c32); (try clear c32b0); (try clear p33); (try clear q33); (try clear hx33); (try clear hf33); (try clear c36); (try clear hx36); (try clear hf36); (try clear c43); (try clear c43b0); (try clear c43b1); (try clear c50); (try clear c50b0); (try clear c50b1); (try clear c52); (try clear c55); (try clear p64); (try clear c65); (try clear c65b0); (try clear c65b1); (try clear c66); (try clear c66b0); (try clear c66b1); (try clear c70); (try clear c70b0); (try clear c70b1); (try clear c71); (try clear c71b0); (try clear c72); (try clear c73); (try clear c73b0); (try clear c74); (try clear c74b0); (try clear c77); (try clear c77b0); (try clear c78); (try clear c79); (try clear c79b0); (try clear c80); (try clear c80b0); (try clear c83); (try clear c84); (try clear c84b0); (try clear c84b1); (try clear c85); (try clear c85b0); (try clear c86); (try clear c86b0); (try clear c87); (try clear c87b0); (try clear c91); (try clear c91b0); (try clear c91b1); (try clear c92); (try clear c94); (try clear c94b0); (try clear c95); (try clear c95b0); (try clear c97); (try clear p97); (try clear q97); (try clear hx97); (try clear c98); (try clear c98b0); (try clear p98); (try clear q98); (try clear hx98); (try clear qi98); (try clear p100); (try clear q100); (try clear hx100); (try clear c104); (try clear c104b0); (try clear c105); (try clear c105b0); (try clear hcz60_0); (try clear hcz60_1); (try clear hfz60_0); (try clear hfz60_1); (try clear hx1007_0); (try clear hx1009_0); (try clear hx31_0); (try clear hx33_0); (try clear hx36_0); (try clear hx975_0); (try clear hx976_0); (try clear hx977_0); (try clear hx979_0); (try clear hx981_0); (try clear hx982_0); (try clear hx984_0); (try clear hx986_0); (try clear hx988_0); (try clear p1007); (try clear p1009); (try clear p975); (try clear p976); (try clear p977); (try clear p979); (try clear p981); (try clear p982); (try clear p984); (try clear p986); (try clear p988); (try clear q1007); (try clear q1009); (try clear q975); (try clear q976); (try clear q977); (try clear q979); (try clear q981); (try clear q982); (try clear q984); (try clear q986); (try clear q988)
        obtain ⟨x26_4, x27_4, rfl, rfl, HA, HK4, HO_18, HO_19, HO_20, HR981_0, HR988_0, HB⟩ := hrel
        cases gk with
        | zero => exact absurd HA.out (by simp [gSums_.l3])
        | succ k4 =>
         have H := HA.out
         clear HA
         simp only [gSums_.l3] at H
         have HC107 := ak H
         clear H
         go_upto_if 117 with (fail)
         go_cut [] (fun wc => ∃ (kq : Nat), Aside0 (gSums_.j7 kq (wrap64 (Int.tmod a0 5)) ji10 (wrap64 (1 + (wrap64 (Int.tmod a2 2)))) x18_12 t964 x20_12 x23_2 x24_2 (rd_L3 t964 (ji103)) x26_4 x27_4 = some r) ∧ Aside0 (kq ≤ k4) ∧ Aside0 (Kd.N (Kd.slice 48 (Kd.int .u64)) 35 wc w.heap.size (fun k_ => some k_ ≠ ((.slice (some ad981) t964.length co106) : Value).ownBlock ∧ some k_ ≠ (u20 : Value).ownBlock) v962 x18_12) ∧ Aside0 (Kd.N (Kd.slice 48 (Kd.int .u64)) 35 wc w.heap.size (fun k_ => some k_ ≠ (v962 : Value).ownBlock ∧ some k_ ≠ (u20 : Value).ownBlock) (.slice (some ad981) t964.length co106) t964) ∧ Aside0 (Kd.R (Kd.int .u64) 48 wc w.heap.size (fun _ => True) u20 x20_12) ∧ Aside0 (Kd.C (Kd.int .u64) wc A981_0 (rd_L3 t964 0).length (rd_L3 t964 0)) ∧ Aside0 (Kd.C (Kd.int .u64) wc A988_0 (rd_L3 t964 (ji103)).length (rd_L3 t964 (ji103))) ∧ Aside0 (Below w.heap.size w wc))
         case first =>
          have H := HC107.out
          clear HC107
          by_cases c108 : x27_4 < ji10
          ·rw [if_pos c108] at H
           have c108b0 := decide_eq_true c108
           clear c108
           (first | rw [c108b0] | (simp only [i64_w, i32_w]; rw [c108b0]) | rw [c108b1] | skip)
           have H' := ak H
           clear H
           go_wp2
           go_meet
           case rel => exact ⟨_, H', ⟨by have := HJ12.out; have := HK2.out; have := HJ41.out; have := HK4.out; first | omega | exact Nat.le_refl _⟩, ⟨by (with_reducible repeat (first | apply Kd.N_alloc | apply Kd.N_drewN | apply Kd.N_drew)); exact HO_18.out⟩, ⟨by (with_reducible repeat (first | apply Kd.N_alloc | apply Kd.N_drewN | apply Kd.N_drew)); exact HO_19.out⟩, ⟨rU_ HO_20.out⟩, ⟨by repeat (first | (with_reducible exact HR981_0.out) | (with_reducible refine Kd.C_alloc ?_ _) | (with_reducible refine Kd.C_drewN ?_ _) | (with_reducible refine Kd.C_drew ?_) | exact HR981_0.out)⟩, ⟨by repeat (first | (with_reducible exact HR988_0.out) | (with_reducible refine Kd.C_alloc ?_ _) | (with_reducible refine Kd.C_drewN ?_ _) | (with_reducible refine Kd.C_drew ?_) | exact HR988_0.out)⟩, ⟨bU_ HB.out⟩⟩
          rw [if_neg c108] at H
          have c108b0 := decide_eq_false c108
          clear c108
          (first | rw [c108b0] | (simp only [i64_w, i32_w]; rw [c108b0]) | rw [c108b1] | skip)
          by_cases c109 : x23_2 = true
          ·subst c109
           rw [if_pos rfl] at H
           revert H
           refine bd_ fun t989 A110 H => ?_
           have H' := ak H
           clear H
           obtain ⟨Ao111, co111, eo111⟩ := Kd.N_slice HO_18.out
           subst eo111
           go_wp2_with (first | (go_at_call 21; (with_reducible refine (a11often.calls k4 _ _ (rd_L3 t964 (ji103)) _ _ x18_12 t989 _ ?side1 ?side2 ?side3 ?side4 A110.out).mono ?_); (case side1 => first | first | exact cU_ (C_below HR988_0.out HB.out) | exact cU_ HR988_0.out | exact cU_ HR988_0.out); (case side2 => exact HC988_0.out); (case side3 => exact cU_ ((Kd.N_reads' HO_18.out).2.2)); (case side4 => exact (Kd.N_reads' HO_18.out).2.1); rintro e w' ⟨rfl, ⟨nd, rfl⟩⟩))
           go_roundg k4
           case measure => have := HJ12.out; have := HK2.out; have := HJ41.out; have := HK4.out; omega
           case rel => exact ⟨((x26_4 == (Int.tmod (IntKind.u64.wrap (t989)) 97))), (wrap64 (x24_2 + 1)), gb_, gb_, H', ⟨by have := HJ12.out; have := HK2.out; have := HJ41.out; have := HK4.out; omega⟩, ⟨by (with_reducible repeat (first | apply Kd.N_alloc | apply Kd.N_drewN | apply Kd.N_drew)); exact HO_18.out⟩, ⟨by (with_reducible repeat (first | apply Kd.N_alloc | apply Kd.N_drewN | apply Kd.N_drew)); exact HO_19.out⟩, ⟨rU_ HO_20.out⟩, ⟨bU_ HB.out⟩⟩
          replace c109 := Bool.eq_false_iff.mpr c109
          subst c109
          rw [if_neg (show ¬ (false = true) by decide)] at H
          have H' := ak H
          clear H
          go_wp2
          go_roundg k4
          case measure => have := HJ12.out; have := HK2.out; have := HJ41.out; have := HK4.out; omega
          case rel => exact ⟨(false), (wrap64 (x24_2 + 1)), gb_, gb_, H', ⟨by have := HJ12.out; have := HK2.out; have := HJ41.out; have := HK4.out; omega⟩, ⟨by (with_reducible repeat (first | apply Kd.N_alloc | apply Kd.N_drewN | apply Kd.N_drew)); exact HO_18.out⟩, ⟨by (with_reducible repeat (first | apply Kd.N_alloc | apply Kd.N_drewN | apply Kd.N_drew)); exact HO_19.out⟩, ⟨rU_ HO_20.out⟩, ⟨bU_ HB.out⟩⟩
         case rest =>
          clear HC107
          (try clear c1); (try clear p1); (try clear q1); (try clear hx1); (try clear c2); (try clear p2); (try clear c3); (try clear p3); (try clear q3); (try clear hx3); (try clear c4); (try clear c5); (try clear c6); (try clear p6); (try clear c7); (try clear c8); (try clear c9); (try clear p9); (try clear q9); (try clear hx9); (try clear qi9); (try clear c10); (try clear p10); (try clear q10); (try clear hx10); (try clear c11); (try clear c11b0); (try clear c11b1); (try clear c12); (try clear c12b0); (try clear c12b1); (try clear c14); (try clear c20); (try clear c23); (try clear c23b0); (try clear c23b1); (try clear c24); (try clear c24b0); (try clear c25); (try clear c25b0); (try clear c26); (try clear c26b0); (try clear c26b1); (try clear c27); (try clear c27b0); (try clear c27b1); (try clear c29); (try clear c29b0); (try clear c30); (try clear c30b0); (try clear c31); (try clear p31); (try clear q31); (try clear hx31); (try clear hf31); (try clear c32); (try clear c32b0); (try clear p33); (try clear q33); (try clear hx33); (try clear hf33); (try clear c36); (try clear hx36); (try clear hf36); (try clear c43); (try clear c43b0); (try clear c43b1); (try clear c50); (try clear c50b0); (try clear c50b1); (try clear c52); (try clear c55); (try clear p64); (try clear c65); (try clear c65b0); (try clear c65b1); (try clear c66); (try clear c66b0); (try clear c66b1); (try clear c70); (try clear c70b0); (try clear c70b1); (try clear c71); (try clear c71b0); (try clear c72); (try clear c73); (try clear c73b0); (try clear c74); (try clear c74b0); (try clear c77); (try clear c77b0); (try clear c78); (try clear c79); (try clear c79b0); (try clear c80); (try clear c80b0); (try clear c83); (try clear c84); (try clear c84b0); (try clear c84b1); (try clear c85); (try clear c85b0); (try clear c86); (try clear c86b0); (try clear c87); (try clear c87b0); (try clear c91); (try clear c91b0); (try clear c91b1); (try clear c92); (try clear c94); (try clear c94b0); (try clear c95); (try clear c95b0); (try clear c97); (try clear p97); (try clear q97); (try clear hx97); (try clear c98); (try clear c98b0); (try clear p98); (try clear q98); (try clear hx98); (try clear qi98); (try clear p100); (try clear q100); (try clear hx100); (try clear c104); (try clear c104b0); (try clear c105); (try clear c105b0); (try clear c108); (try clear c108b0); (try clear c108b1); (try clear c109); (try clear hcz60_0); (try clear hcz60_1); (try clear hfz60_0); (try clear hfz60_1); (try clear hx1007_0); (try clear hx1009_0); (try clear hx31_0); (try clear hx33_0); (try clear hx36_0); (try clear hx975_0); (try clear hx976_0); (try clear hx977_0); (try clear hx979_0); (try clear hx981_0); (try clear hx982_0); (try clear hx984_0); (try clear hx986_0); (try clear hx988_0); (try clear p1007); (try clear p1009); (try clear p975); (try clear p976); (try clear p977); (try clear p979); (try clear p981); (try clear p982); (try clear p984); (try clear p986); (try clear p988); (try clear q1007); (try clear q1009); (try clear q975); (try clear q976); (try clear q977); (try clear q979); (try clear q981); (try clear q982); (try clear q984); (try clear q986); (try clear q988)
          obtain ⟨kq, HA, HJ106, HO_18, HO_19, HO_20, HR981_0, HR988_0, HB⟩ := hcut
          as_aux_lemma =>
          cases kq with
          | zero => exact absurd HA.out (by simp [gSums_.j7])
          | succ kj106 =>
           have H := HA.out
           clear HA
           simp only [gSums_.j7] at H
           obtain ⟨c112, H⟩ : (0 ≤ x27_4) ∧ _ := it_ H
           have c112b0 := decide_eq_true c112
           clear c112
           obtain ⟨c113, H⟩ : (x27_4 < (t964.length : Int)) ∧ _ := it_ H
           have c113b0 := decide_eq_true c113
           clear c113
           revert H
           refine bd_ fun t991 A114 H => ?_
           by_cases c115 : t991 = true
           ·subst c115
            rw [if_pos rfl] at H
            obtain ⟨c116, H⟩ : (x27_4 < (x20_12.length : Int)) ∧ _ := it_ H
            have c116b0 := decide_eq_true c116
            clear c116
            revert H
            refine bd_ fun t993 A117 H => ?_
            have H' := ak H
            clear H
            have p990 : 0 ≤ (x27_4 : Int) := od_
            have q990 : x27_4 < (t964.length : Int) := od_
            obtain ⟨ad990, A990_0, c990_0, e990, hx990_0, hl990_0, hi990_0⟩ := at_L3 (Kd.N_reads' HO_19.out).2.2 x27_4 p990 q990
            obtain rfl : ad981 = ad990 := (by injection e990)
            obtain ⟨ce990, hce990, hMe990, hcc990⟩ := Kd.N_get HO_19.out [] x27_4 p990 (by first | exact q990 | exact od_ | (have e_ := (Kd.N_reads' HO_19.out).1; omega))
            obtain ⟨ua990_0, uc990_0, rfl, ul990_0, ge990_0⟩ := Kd.FK_slice_open hMe990
            have hv990_0 := hcc990 0 _ rfl
            rw [Nat.add_zero, show ((Kd.slice 48 (Kd.int .u64))).sz = 1 from rfl, Nat.mul_one] at hv990_0
            replace hv990_0 := Option.some.inj (hv990_0.symm.trans hx990_0)
            injection hv990_0 with hva_ hvn_ hvc_
            rw [hva_] at ge990_0
            rw [hvc_] at ul990_0
            have HL990_0 := ak (show Kd.V (Kd.int .u64) 48 _ w.heap.size _ _ (rd_L3 t964 x27_4) from V_mk ul990_0 ge990_0)
            clear hva_ hvn_ hvc_ ge990_0 ul990_0
            clear hcc990 hce990
            have HR990_0 := ak hi990_0
            have HC990_0 := ak hl990_0
            clear hi990_0 hl990_0
            replace p990 := eq_true p990
            replace q990 := eq_true q990
            go_wp2_with (first | ((with_reducible refine gate_callee (f := 24) rfl ?_); refine gl_ (some 125) Tryd.func24 #[.slice A988_0 (rd_L3 t964 (ji103)).length c988_0, .slice A990_0 (rd_L3 t964 x27_4).length c990_0] ?_; (with_reducible refine (a11equal.calls kj106 _ _ (rd_L3 t964 (ji103)) _ _ (rd_L3 t964 x27_4) true _ ?side1 ?side2 ?side3 ?side4 A114.out).mono ?_); (case side1 => first | first | exact cU_ (C_below HR988_0.out HB.out) | exact cU_ HR988_0.out | exact cU_ HR988_0.out); (case side2 => exact HC988_0.out); (case side3 => repeat (first | exact (by repeat (first | (with_reducible exact HR990_0.out) | (with_reducible refine Kd.C_alloc ?_ _) | (with_reducible refine Kd.C_drewN ?_ _) | (with_reducible refine Kd.C_drew ?_) | exact HR990_0.out)) | (with_reducible refine Kd.C_alloc ?_ _) | (with_reducible refine Kd.C_drewN ?_ _) | (with_reducible refine Kd.C_drew ?_))); (case side4 => exact HC990_0.out); rintro e w' ⟨rfl, ⟨nd, rfl⟩⟩; refine ⟨_, rfl, ?_⟩; obtain ⟨Ao119, co119, eo119⟩ := R_slice HO_20.out; subst eo119; have pfr118 : 0 ≤ (x27_4 : Int) := od_; have qfr118 : (x27_4 : Int) < ((x20_12.length : Int) : Int) := od_; obtain ⟨gofr118, cofr118, eofr118, gbfr118, glfr118, clfr118, HGfr118⟩ := Kd.R_form HO_20.out (by omega); (first | cases eofr118 | (injection eofr118 with ea_ en_ ec_; (first | subst ea_ | (injection ea_ with ea_; subst ea_)); subst ec_; clear en_)); have GBfr118 := ak gbfr118; have GGfr118 := ak HGfr118; clear gbfr118 glfr118 HGfr118; clear pfr118 qfr118; have p992 : 0 ≤ (x27_4 : Int) := od_; have q992 : x27_4 < (x20_12.length : Int) := od_; obtain ⟨ad992, e992, hx992_0⟩ := Kd.at_int (R_reads' HO_20.out).2.2 x27_4 p992 q992; obtain rfl : (⟨gofr118, 0, none⟩ : Addr) = ad992 := (by injection e992); (first | simp only [add_plain] at hx992_0 | simp only [add_at] at hx992_0 | simp only [Addr.add, Nat.zero_add] at hx992_0 | skip); replace p992 := eq_true p992; replace q992 := eq_true q992) | ((with_reducible refine gate_callee (f := 25) rfl ?_); refine gl_ (some 131) Tryd.func25 #[.int .i64 0, .int .u64 x26_4, .int .u64 (rd x20_12 x27_4)] ?_; (with_reducible refine (field_Add.calls 0 x26_4 (rd x20_12 x27_4) t993 _ ?side1 A117.out).mono ?_); (case side1 => exact fU_ HG.out HB.out); rintro e w120 ⟨rfl, hb⟩; refine ⟨_, rfl, ?_⟩; refine nx8_ (Kd.N_below (by (with_reducible repeat (first | apply Kd.N_alloc | apply Kd.N_drewN | apply Kd.N_drew)); exact HO_18.out) hb) (Kd.N_below (by (with_reducible repeat (first | apply Kd.N_alloc | apply Kd.N_drewN | apply Kd.N_drew)); exact HO_19.out) hb) (R_below (rU_ HO_20.out) hb) (V_below (vU_ HL990_0.out) hb) (C_below (by repeat (first | (with_reducible exact HR981_0.out) | (with_reducible refine Kd.C_alloc ?_ _) | (with_reducible refine Kd.C_drewN ?_ _) | (with_reducible refine Kd.C_drew ?_) | exact HR981_0.out)) hb) (C_below (by repeat (first | (with_reducible exact HR988_0.out) | (with_reducible refine Kd.C_alloc ?_ _) | (with_reducible refine Kd.C_drewN ?_ _) | (with_reducible refine Kd.C_drew ?_) | exact HR988_0.out)) hb) (C_below (by repeat (first | (with_reducible exact HR990_0.out) | (with_reducible refine Kd.C_alloc ?_ _) | (with_reducible refine Kd.C_drewN ?_ _) | (with_reducible refine Kd.C_drew ?_) | exact HR990_0.out)) hb) (below_step (bU_ HB.out) hb) ?_; clear HO_18 HO_19 HO_20 HL990_0 HR981_0 HR988_0 HR990_0 HB; intro HO_18 HO_19 HO_20 HL990_0 HR981_0 HR988_0 HR990_0 HB; clear hb))
            go_roundg kj106
            case measure => have := HJ12.out; have := HK2.out; have := HJ41.out; have := HK4.out; have := HJ106.out; omega
            case rel => exact ⟨(t993), (wrap64 (x27_4 + 1)), gb_, gb_, H', ⟨by have := HJ12.out; have := HK2.out; have := HJ41.out; have := HK4.out; have := HJ106.out; omega⟩, ⟨by (with_reducible repeat (first | apply Kd.N_alloc | apply Kd.N_drewN | apply Kd.N_drew)); exact HO_18.out⟩, ⟨by (with_reducible repeat (first | apply Kd.N_alloc | apply Kd.N_drewN | apply Kd.N_drew)); exact HO_19.out⟩, ⟨rU_ HO_20.out⟩, ⟨by repeat (first | (with_reducible exact HR981_0.out) | (with_reducible refine Kd.C_alloc ?_ _) | (with_reducible refine Kd.C_drewN ?_ _) | (with_reducible refine Kd.C_drew ?_) | exact HR981_0.out)⟩, ⟨by repeat (first | (with_reducible exact HR988_0.out) | (with_reducible refine Kd.C_alloc ?_ _) | (with_reducible refine Kd.C_drewN ?_ _) | (with_reducible refine Kd.C_drew ?_) | exact HR988_0.out)⟩, ⟨bU_ HB.out⟩⟩
           replace c115 := Bool.eq_false_iff.mpr c115
           subst c115
           rw [if_neg (show ¬ (false = true) by decide)] at H
           have H' := ak H
           clear H
           have p990 : 0 ≤ (x27_4 : Int) := od_
           have q990 : x27_4 < (t964.length : Int) := od_
           obtain ⟨ad990, A990_0, c990_0, e990, hx990_0, hl990_0, hi990_0⟩ := at_L3 (Kd.N_reads' HO_19.out).2.2 x27_4 p990 q990
           obtain rfl : ad981 = ad990 := (by injection e990)
           obtain ⟨ce990, hce990, hMe990, hcc990⟩ := Kd.N_get HO_19.out [] x27_4 p990 (by first | exact q990 | exact od_ | (have e_ := (Kd.N_reads' HO_19.out).1; omega))
           obtain ⟨ua990_0, uc990_0, rfl, ul990_0, ge990_0⟩ := Kd.FK_slice_open hMe990
           have hv990_0 := hcc990 0 _ rfl
           rw [Nat.add_zero, show ((Kd.slice 48 (Kd.int .u64))).sz = 1 from rfl, Nat.mul_one] at hv990_0
           replace hv990_0 := Option.some.inj (hv990_0.symm.trans hx990_0)
           injection hv990_0 with hva_ hvn_ hvc_
           rw [hva_] at ge990_0
           rw [hvc_] at ul990_0
           have HL990_0 := ak (show Kd.V (Kd.int .u64) 48 _ w.heap.size _ _ (rd_L3 t964 x27_4) from V_mk ul990_0 ge990_0)
           clear hva_ hvn_ hvc_ ge990_0 ul990_0
           clear hcc990 hce990
           have HR990_0 := ak hi990_0
           have HC990_0 := ak hl990_0
           clear hi990_0 hl990_0
           replace p990 := eq_true p990
           replace q990 := eq_true q990
           go_wp2_with (first | ((with_reducible refine gate_callee (f := 24) rfl ?_); refine gl_ (some 125) Tryd.func24 #[.slice A988_0 (rd_L3 t964 (ji103)).length c988_0, .slice A990_0 (rd_L3 t964 x27_4).length c990_0] ?_; (with_reducible refine (a11equal.calls kj106 _ _ (rd_L3 t964 (ji103)) _ _ (rd_L3 t964 x27_4) false _ ?side1 ?side2 ?side3 ?side4 A114.out).mono ?_); (case side1 => first | first | exact cU_ (C_below HR988_0.out HB.out) | exact cU_ HR988_0.out | exact cU_ HR988_0.out); (case side2 => exact HC988_0.out); (case side3 => repeat (first | exact (by repeat (first | (with_reducible exact HR990_0.out) | (with_reducible refine Kd.C_alloc ?_ _) | (with_reducible refine Kd.C_drewN ?_ _) | (with_reducible refine Kd.C_drew ?_) | exact HR990_0.out)) | (with_reducible refine Kd.C_alloc ?_ _) | (with_reducible refine Kd.C_drewN ?_ _) | (with_reducible refine Kd.C_drew ?_))); (case side4 => exact HC990_0.out); rintro e w' ⟨rfl, ⟨nd, rfl⟩⟩; refine ⟨_, rfl, ?_⟩))
           go_roundg kj106
           case measure => have := HJ12.out; have := HK2.out; have := HJ41.out; have := HK4.out; have := HJ106.out; omega
           case rel => exact ⟨(x26_4), (wrap64 (x27_4 + 1)), gb_, gb_, H', ⟨by have := HJ12.out; have := HK2.out; have := HJ41.out; have := HK4.out; have := HJ106.out; omega⟩, ⟨by (with_reducible repeat (first | apply Kd.N_alloc | apply Kd.N_drewN | apply Kd.N_drew)); exact HO_18.out⟩, ⟨by (with_reducible repeat (first | apply Kd.N_alloc | apply Kd.N_drewN | apply Kd.N_drew)); exact HO_19.out⟩, ⟨rU_ HO_20.out⟩, ⟨by repeat (first | (with_reducible exact HR981_0.out) | (with_reducible refine Kd.C_alloc ?_ _) | (with_reducible refine Kd.C_drewN ?_ _) | (with_reducible refine Kd.C_drew ?_) | exact HR981_0.out)⟩, ⟨by repeat (first | (with_reducible exact HR988_0.out) | (with_reducible refine Kd.C_alloc ?_ _) | (with_reducible refine Kd.C_drewN ?_ _) | (with_reducible refine Kd.C_drew ?_) | exact HR988_0.out)⟩, ⟨bU_ HB.out⟩⟩

end Go.Proofs.YtbjeemlbjkmhiaaDoor.Q

import Derived.Test.YtjjjoepnlhpjdaaDoorQ0
import Derived.Test.YtjjjoepnlhpjdaaDoorQ19
namespace Go.Proofs.YtjjjoepnlhpjdaaDoor.Q
open Go.RowKit Go.Proofs.YtjjjoepnlhpjdaaDoorW.PrintWords Go.Proofs.YtjjjoepnlhpjdaaDoorW.PrintLast Go.Proofs.YtjjjoepnlhpjdaaDoorW.PrintMore
open Kd (R_mono R_lower R_new' R_newM R_elder' R_base R_lt R_slice R_reads' R_V R_make V_mono V_elder' V_slice V_reads' C_of_reads)
attribute [local go_sem] max2_int min2_int max_two min_two max_three min_three max_four min_four   -- for this text's walks alone
set_option linter.unusedVariables false
set_option linter.unusedSimpArgs false

def attestorlaw02_own.f (l0 : List Int) : Option (List Int) := if 0 ≤ (mn (l0.length : Int) 70) then (if (mn (l0.length : Int) 70) ≤ (l0.length : Int) then (if ([] : List Int).length + (l0.take ((mn (l0.length : Int) 70) : Int).toNat).length < 35184372088832 then (some (([] : List Int) ++ (l0.take ((mn (l0.length : Int) 70) : Int).toNat))) else (none)) else (none)) else (none)
set_option maxHeartbeats 8000000 in
set_option maxRecDepth 100000 in
theorem attestorlaw02_own.calls (A0 : Option Addr) (c0 : Nat) (l0 : List Int) (r : List Int) (w : World) (hr0 : Kd.C (Kd.int .u32) w A0 l0.length l0) (hc0 : l0.length ≤ c0) (h : attestorlaw02_own.f l0 = some r) :
  Calls Tryd.prog 37 #[.slice A0 l0.length c0] w fun e w' => ∃ v0_ : Value, e = .returned (v0_) ∧ Kd.R (Kd.int .u32) 44 w' w.heap.size (fun _ => True) v0_ r ∧ Below w.heap.size w w' := by
 have HR0 := ak hr0
 have HC0 := ak hc0
 clear hr0 hc0
 have HB := ak (Below.refl w.heap.size w)
 have H := h
 clear h
 unfold attestorlaw02_own.f at H
 obtain ⟨ji2, hji2⟩ : ∃ j_ : Int, (mn (l0.length : Int) 70) = j_ := ⟨_, rfl⟩
 first | rw [hji2] at H | simp only [hji2] at H
 (try (have hji2h : ji2 ≤ 70 := by (rw [← hji2]; unfold mn; (repeat' split) <;> omega)))
 (try (have hji2g : ji2 ≤ 64 := by omega))
 (try (have hji2l : 0 ≤ ji2 := by (rw [← hji2]; unfold mn; (repeat' split) <;> omega)))
 (try (have hji2m : 0 ≤ ji2 := by omega))
 have hji2_ : (if 70 < (l0.length : Int) then 70 else (l0.length : Int)) = ji2 := hji2
 obtain ⟨c3, H⟩ : (0 ≤ (ji2)) ∧ _ := it_ H
 have c3b0 := eq_true c3
 have c3b1 := decide_eq_true c3
 clear c3
 obtain ⟨c4, H⟩ : ((ji2) ≤ (l0.length : Int)) ∧ _ := it_ H
 have c4b0 := eq_true c4
 have c4b1 := decide_eq_true c4
 clear c4
 obtain ⟨c5, H⟩ : (([] : List Int).length + (l0.take ((ji2) : Int).toNat).length < 35184372088832) ∧ _ := it_ H
 have LMc5 := ak c5
 clear c5
 obtain ⟨y1178, hy1178⟩ : ∃ y_ : List Int, y_ = (([] : List Int) ++ (l0.take ((ji2) : Int).toNat)) := ⟨_, rfl⟩
 first | rw [Option.bind_some, ← hy1178] at H | rw [← hy1178] at H
 have Ny1178 := ak hy1178
 clear hy1178
 obtain rfl := Option.some.inj H
 obtain ⟨i06, hi06, _, hsz6, _⟩ := info_parts info44
 obtain ⟨hcut6, hA6, hC6⟩ := print_take_of (P := Tryd.prog) (Value.int .u32) 0 24 44 .i64 Tryd.underlying24 hi06 hsz6 A0 c0 l0 (ji2) od_ od_ HC0.out
 have HR1177 := ak (C_of_reads (h1 := fun _ => rfl) (hA6 _ (Kd.reads_of_C HR0.out)))
 have HC1177 := ak hC6
 clear hA6 hC6 hi06 hsz6
 go_enter Tryd.func37, Tryd.ntmps37
 go_wp2_with (first | ((with_reducible refine gate_builtin (b := .append) (xs := #[.tmp 4, .tmp 9]) rfl ?_); at_builtin; refine Kd.R_append_rows (Kd.int .u32) (w0 := w) w.heap.size rfl (.tmp 4) (.tmp 9) 24 44 (.int .u32 0) 4 rfl Tryd.underlying24 info44 rfl (by decide) (by omega) (.slice none 0 0) ([] : List Int) (l0.take ((ji2) : Int).toNat) _ _ _ (fun _ => True) (fun _ => False) rfl rfl ?aO ?aR (fun _ _ h => h) (fun _ h => h.elim) ?aF ?aB ?aS ?aL ?_; (case aR => first | (refine lenEq_ (show (l0.take ((ji2) : Int).toNat).length = (ji2).toNat from (by rw [List.length_take]; have h_ : ((ji2) : Int) ≤ (l0.length : Int) := od_; omega)) ?_; exact cU_ HR1177.out) | (exact cU_ HR1177.out)); (case aB => exact (bU_ HB.out)); (case aF => exact (fun _ _ => trivial)); (case aO => exact ((Kd.R_nil _ _ _ _ (fun _ => True)))); (case aS => exact (below_size (bU_ HB.out))); (case aL => have := LMc5.out; have hlx_ := (show (l0.take ((ji2) : Int).toNat).length = (ji2).toNat from (by rw [List.length_take]; have h_ : ((ji2) : Int) ≤ (l0.length : Int) := od_; omega)); omega); intro v1179 w7 ho hb hg hat; rw [← Ny1178.out] at ho; refine nx2_ (hb) (ho) ?_; clear HB; intro HB HO1180; clear ho hb hg hat))
 go_ret
 exact ⟨_, by first | rfl | (simp [errW_none, errW_some] <;> rfl) | (simp only [← hji2]; first | rfl | (simp [errW_none, errW_some] <;> rfl)) | (simp [*, errW_none, errW_some] <;> rfl), rU_ HO1180.out, bU_ HB.out⟩

mutual
def attestorref02_Text.l0 : Nat → List Int → ByteArray → Option (ByteArray)
 | 0, _, _ => none
 | k + 1, x0, x3 => if (x0.length : Int) > 0 then (if 0 ≤ (x0.length : Int) then (if ((x0.length : Int) : Int).toNat ≤ 70368744177664 then (attestorref02_Text.l1 k x0 x3 (List.replicate ((x0.length : Int) : Int).toNat 0) 0 (wrap64 ((x0.length : Int) - 1))) else (none)) else (none)) else (some x3)
def attestorref02_Text.l1 : Nat → List Int → ByteArray → List Int → Int → Int → Option (ByteArray)
 | 0, _, _, _, _, _ => none
 | k + 1, x0, x3, x4, x5, x6 => if x6 ≥ 0 then (if 0 ≤ x6 then (if x6 < (x0.length : Int) then (if x6 < (x4.length : Int) then (attestorref02_Text.l1 k x0 x3 (x4.set (x6 : Int).toNat ((IntKind.u64.wrap (Int.tdiv (IntKind.u64.wrap ((IntKind.u64.wrap (x5 * 4294967296)) + (IntKind.u64.wrap (rd x0 x6)))) 10)) % 4294967296)) (Int.tmod (IntKind.u64.wrap ((IntKind.u64.wrap (x5 * 4294967296)) + (IntKind.u64.wrap (rd x0 x6)))) 10) (wrap64 (x6 - 1))) else (none)) else (none)) else (none)) else (if 0 ≤ x5 then (if x5 ≤ (IntKind.u64.wrap (x5 + 1)) then (if (IntKind.u64.wrap (x5 + 1)) ≤ 10 then (if ((⟨#[48, 49, 50, 51, 52, 53, 54, 55, 56, 57]⟩ : ByteArray).extract (x5 : Int).toNat ((IntKind.u64.wrap (x5 + 1)) : Int).toNat).size + x3.size ≤ 9223372036854775807 then ((attestorref02_trim.f k x4).bind fun t1192 => (attestorref02_Text.l0 k t1192 (((⟨#[48, 49, 50, 51, 52, 53, 54, 55, 56, 57]⟩ : ByteArray).extract (x5 : Int).toNat ((IntKind.u64.wrap (x5 + 1)) : Int).toNat) ++ x3))) else (none)) else (none)) else (none)) else (none))
end
def attestorref02_Text.f (k : Nat) (l0 : List Int) : Option (ByteArray) := (attestorref02_ValidNat.f l0).bind fun t1186 => (if t1186 = true then (if (l0.length : Int) = 0 then (some (⟨#[48]⟩ : ByteArray)) else (attestorref02_Text.l0 k l0 (⟨#[]⟩ : ByteArray))) else (some (⟨#[]⟩ : ByteArray)))
set_option maxHeartbeats 8000000 in
set_option maxRecDepth 100000 in
theorem attestorref02_Text.calls (k : Nat) (P0_ : Nat → Prop) (A0 : Option Addr) (c0 : Nat) (l0 : List Int) (r : ByteArray) (w : World) (hs0 : Kd.V (Kd.int .u32) 44 w w.heap.size (fun k_ => P0_ k_) (.slice A0 l0.length c0) l0) (h : attestorref02_Text.f k l0 = some r) :
  Calls Tryd.prog 50 #[.slice A0 l0.length c0] w fun e w' => e = .returned (.string r) ∧ Below w.heap.size w w' := by
 have HO0 := ak (show Kd.V (Kd.int .u32) 44 w w.heap.size (fun k_ => (P0_ k_ ∨ w.heap.size ≤ k_)) (.slice A0 l0.length c0) l0 from V_mono hs0 (fun k_ hk => .inl hk))
 have HB := ak (Below.refl w.heap.size w)
 have H := h
 clear h
 unfold attestorref02_Text.f at H
 revert H
 refine bd_ fun t1186 A2 H => ?_
 by_cases c3 : t1186 = true
 ·subst c3
  rw [if_pos rfl] at H
  by_cases c4 : (l0.length : Int) = 0
  ·rw [if_pos c4] at H
   have c4b0 := beq_iff_eq.mpr c4
   have c4b1 := bne_eq_false_iff_eq.mpr c4
   clear c4
   obtain rfl := Option.some.inj H
   go_enter Tryd.func50, Tryd.ntmps50
   go_wp2_with (first | ((with_reducible refine gate_callee (f := 48) rfl ?_); refine gl_ (some 9) Tryd.func48 #[.slice A0 l0.length c0] ?_; (with_reducible refine (attestorref02_ValidNat.calls _ _ l0 true _ ?side1 ?side2 A2.out).mono ?_); (case side1 => exact cU_ ((V_reads' HO0.out).2.2)); (case side2 => exact (V_reads' HO0.out).2.1); rintro e w' ⟨rfl, ⟨nd, rfl⟩⟩; refine ⟨_, rfl, ?_⟩))
   go_ret
   exact ⟨eW_, bU_ HB.out⟩
  ·rw [if_neg c4] at H
   have c4b0 := beq_eq_false_iff_ne.mpr c4
   have c4b1 := bne_iff_ne.mpr c4
   have c4b2 : ¬ (l0 = []) := fun h_ => c4 (by rw [h_]; rfl)
   have H' := ak H
   clear H
   go_enter Tryd.func50, Tryd.ntmps50
   go_wp2_with (first | ((with_reducible refine gate_callee (f := 48) rfl ?_); refine gl_ (some 9) Tryd.func48 #[.slice A0 l0.length c0] ?_; (with_reducible refine (attestorref02_ValidNat.calls _ _ l0 true _ ?side1 ?side2 A2.out).mono ?_); (case side1 => exact cU_ ((V_reads' HO0.out).2.2)); (case side2 => exact (V_reads' HO0.out).2.1); rintro e w' ⟨rfl, ⟨nd, rfl⟩⟩; refine ⟨_, rfl, ?_⟩))
   go_loopg [0, 3] k (fun kq v0 v3 w' => ∃ (x0_1 : List Int) (x3_1 : ByteArray), v3 = .string x3_1 ∧ Aside0 (attestorref02_Text.l0 kq x0_1 x3_1 = some r) ∧ Aside0 (kq ≤ k) ∧ Aside0 (Kd.V (Kd.int .u32) 44 w' w.heap.size (fun k_ => (P0_ k_ ∨ w.heap.size ≤ k_)) v0 x0_1) ∧ Aside0 (Below w.heap.size w w'))
   case atStart => exact ⟨(l0), ((⟨#[]⟩ : ByteArray)), gb_, H', ⟨Nat.le_refl _⟩, ⟨vU_ HO0.out⟩, ⟨bU_ HB.out⟩⟩
   case round =>
    clear H'
    (try clear p2); (try clear c3); (try clear c4); (try clear c4b0); (try clear c4b1); (try clear c4b2)
    obtain ⟨x0_1, x3_1, rfl, HA, HK1, HO_0, HB⟩ := hrel
    cases gk with
    | zero => exact absurd HA.out (by simp [attestorref02_Text.l0])
    | succ k1 =>
     have H := HA.out
     clear HA
     simp only [attestorref02_Text.l0] at H
     by_cases c5 : (x0_1.length : Int) > 0
     ·rw [if_pos c5] at H
      have c5b0 : decide (0 < (x0_1.length : Int)) = true := decide_eq_true c5
      have c5b1 : decide (0 < x0_1.length) = true := decide_eq_true (by omega)
      clear c5
      obtain ⟨c6, H⟩ : (0 ≤ (x0_1.length : Int)) ∧ _ := it_ H
      have c6b0 := eq_true c6
      have c6b1 := decide_eq_true c6
      clear c6
      obtain ⟨c7, H⟩ : (((x0_1.length : Int) : Int).toNat ≤ 70368744177664) ∧ _ := it_ H
      have c7b0 := eq_true c7
      have c7b1 := decide_eq_true c7
      clear c7
      obtain ⟨y1187, hy1187⟩ : ∃ y_ : List Int, y_ = (List.replicate ((x0_1.length : Int) : Int).toNat 0) := ⟨_, rfl⟩
      first | rw [Option.bind_some, ← hy1187] at H | rw [← hy1187] at H
      have Ny1187 := ak hy1187
      clear hy1187
      have H' := ak H
      clear H
      obtain ⟨Ao8, co8, eo8⟩ := V_slice HO_0.out
      subst eo8
      go_wp2_with (first | ((with_reducible refine gate_dst (N := 19) rfl ?_); refine R_make (Kd.int .u32) _ 44 rfl (N := 19) rfl 23 _ _ rfl (x0_1.length : Int) ?hx ?hy Tryd.underlying23 (.int .u32 0) 4 info44 rfl (by decide) (by omega) 0 (ok := fun _ => True) (okp := fun _ => True) rfl (fun _ hk => hk) trivial od_ (Nat.le_trans (Nat.mul_le_mul_right _ (od_ : (x0_1.length : Int).toNat ≤ 70368744177664)) (by omega)) (Below.refl _ _) (Nat.le_refl _) ?_; (case hx => first | rfl); (case hy => first | rfl); intro v1188 w9 ho10 hb hg_ hnew_; clear hg_ hnew_; (first | rw [← Ny1187.out] at ho10 | (simp only [Int.reduceToNat] at ho10; rw [← Ny1187.out] at ho10)); refine nx3_ (V_elder' (vU_ HO_0.out) (R_base ho10) hb) (R_lower (R_newM (M := fun k_ => (w.heap.size ≤ k_)) ho10 (below_size (bU_ HB.out)) (fun k_ h_ => h_)) (below_size (bU_ HB.out))) (below_step (bU_ HB.out) hb) ?_; clear HO_0 HB; intro HO_0 HO1189 HB; clear hb ho10))
      go_loopg [5, 6] k1 (fun kq v5 v6 w' => ∃ (x4_2 : List Int) (x5_2 : Int) (x6_2 : Int), v5 = .int .u64 x5_2 ∧ v6 = .int .i64 x6_2 ∧ Aside0 (attestorref02_Text.l1 kq x0_1 x3_1 x4_2 x5_2 x6_2 = some r) ∧ Aside0 (kq ≤ k1) ∧ Aside0 (Kd.V (Kd.int .u32) 44 w' w.heap.size (fun k_ => (P0_ k_ ∨ w.heap.size ≤ k_) ∧ some k_ ≠ (v1188 : Value).ownBlock) (.slice Ao8 x0_1.length co8) x0_1) ∧ Aside0 (Kd.R (Kd.int .u32) 44 w' w.heap.size (fun k_ => (w.heap.size ≤ k_)) v1188 x4_2) ∧ Aside0 (Below w.heap.size w w'))
      case atStart => exact ⟨(y1187), (0), (wrap64 ((x0_1.length : Int) - 1)), gb_, gb_, H', ⟨Nat.le_refl _⟩, ⟨vU_ HO_0.out⟩, ⟨R_mono (rU_ HO1189.out) (fun _ hk => hk.1)⟩, ⟨bU_ HB.out⟩⟩
      case round =>
       clear H'
       (try clear p2); (try clear c3); (try clear c4); (try clear c4b0); (try clear c4b1); (try clear c4b2); (try clear c5); (try clear c5b0); (try clear c5b1); (try clear c6); (try clear c6b0); (try clear c6b1); (try clear p6); (try clear c7); (try clear c7b0); (try clear c7b1)
       obtain ⟨x4_2, x5_2, x6_2, rfl, rfl, HA, HK2, HO_0, HO_4, HB⟩ := hrel
       cases gk with
       | zero => exact absurd HA.out (by simp [attestorref02_Text.l1])
       | succ k2 =>
        have H := HA.out
        clear HA
        simp only [attestorref02_Text.l1] at H
        by_cases c11 : x6_2 ≥ 0
        ·rw [if_pos c11] at H
         have c11b0 : decide (0 ≤ x6_2) = true := decide_eq_true c11
         clear c11
         obtain ⟨c12, H⟩ : (0 ≤ x6_2) ∧ _ := it_ H
         have c12b0 := decide_eq_true c12
         clear c12
         obtain ⟨c13, H⟩ : (x6_2 < (x0_1.length : Int)) ∧ _ := it_ H
         have c13b0 := decide_eq_true c13
         clear c13
         obtain ⟨c14, H⟩ : (x6_2 < (x4_2.length : Int)) ∧ _ := it_ H
         have c14b0 := decide_eq_true c14
         clear c14
         obtain ⟨y1191, hy1191⟩ : ∃ y_ : List Int, y_ = (x4_2.set (x6_2 : Int).toNat ((IntKind.u64.wrap (Int.tdiv (IntKind.u64.wrap ((IntKind.u64.wrap (x5_2 * 4294967296)) + (IntKind.u64.wrap (rd x0_1 x6_2)))) 10)) % 4294967296)) := ⟨_, rfl⟩
         first | rw [Option.bind_some, ← hy1191] at H | rw [← hy1191] at H
         have Ny1191 := ak hy1191
         clear hy1191
         have H' := ak H
         clear H
         have p1190 : 0 ≤ (x6_2 : Int) := od_
         have q1190 : x6_2 < (x0_1.length : Int) := od_
         obtain ⟨ad1190, e1190, hx1190_0⟩ := Kd.at_int (V_reads' HO_0.out).2.2 x6_2 p1190 q1190
         cases e1190
         replace p1190 := eq_true p1190
         replace q1190 := eq_true q1190
         have p15 : 0 ≤ (x6_2 : Int) := od_
         have q15 : (x6_2 : Int) < ((x4_2.length : Int) : Int) := od_
         obtain ⟨go15, co15, eo15, gb15, gl15, cl15, HG15⟩ := Kd.R_form HO_4.out (by omega)
         (first | cases eo15 | (injection eo15 with ea_ en_ ec_; (first | subst ea_ | (injection ea_ with ea_; subst ea_)); subst ec_; clear en_))
         have GB15 := ak gb15
         have GG15 := ak HG15
         clear gb15 gl15 HG15
         obtain ⟨hx15_0, hf15_0⟩ := Kd.R_celln 0 HO_4.out (x6_2 : Int) p15 q15
         replace p15 := eq_true p15
         replace q15 := eq_true q15
         have HP16 := Kd.R_putg HO_4.out (x6_2 : Int) ((IntKind.u64.wrap (Int.tdiv (IntKind.u64.wrap ((IntKind.u64.wrap (x5_2 * 4294967296)) + (IntKind.u64.wrap (rd x0_1 x6_2)))) 10)) % 4294967296)
         go_wp2_with (first | ((with_reducible refine gate_store (t := 44) (p := 40) rfl ?_); refine store_event (t := 44) (p := 40) (v := ?vo_w17) (w1 := (wr.setCell ⟨go15, (x6_2 : Int).toNat, none⟩ (.int .u32 ((IntKind.u64.wrap (Int.tdiv (IntKind.u64.wrap ((IntKind.u64.wrap (x5_2 * 4294967296)) + (IntKind.u64.wrap (rd x0_1 x6_2)))) 10)) % 4294967296)))) ?hg ?ho ?hn ?hr ?_; (case ho => rfl); (case hg => rfl); (case hn => rfl); (case hr => first | (go_simp; done) | (go_simp; rfl)); intro w17 hw; have hg : wr.grownBy w17 (some go15) := (by rw [hw]; exact HP16.2); have hp_ : Kd.R (Kd.int .u32) 44 w17 w.heap.size (fun k_ => (w.heap.size ≤ k_)) (.slice (some ⟨go15, 0, none⟩) x4_2.length co15) y1191 := (by rw [hw, Ny1191.out]; exact HP16.1); clear HP16; refine nx3_ (Kd.V_afterv (v := (.slice (some ⟨go15, 0, none⟩) x4_2.length co15)) (v1 := (.slice (some ⟨go15, 0, none⟩) x4_2.length co15)) (ok := (fun k_ => (P0_ k_ ∨ w.heap.size ≤ k_))) (vU_ HO_0.out) hg (.inl rfl)) (hp_) ((by rw [hw]; exact below_set (HB.out) GB15.out : Below w.heap.size w w17)) ?_; clear HO_0 HO_4 HB; intro HO_0 HO_4 HB; clear hg hw hp_))
         go_roundg k2
         case measure => have := HK1.out; have := HK2.out; omega
         case rel => exact ⟨(y1191), (Int.tmod (IntKind.u64.wrap ((IntKind.u64.wrap (x5_2 * 4294967296)) + (IntKind.u64.wrap (rd x0_1 x6_2)))) 10), (wrap64 (x6_2 - 1)), gb_, gb_, H', ⟨by have := HK1.out; have := HK2.out; omega⟩, ⟨vU_ HO_0.out⟩, ⟨rU_ HO_4.out⟩, ⟨bU_ HB.out⟩⟩
        ·rw [if_neg c11] at H
         have c11b0 : decide (0 ≤ x6_2) = false := decide_eq_false c11
         clear c11
         obtain ⟨c18, H⟩ : (0 ≤ x5_2) ∧ _ := it_ H
         have c18b0 := eq_true c18
         have c18b1 := decide_eq_true c18
         clear c18
         obtain ⟨c19, H⟩ : (x5_2 ≤ (IntKind.u64.wrap (x5_2 + 1))) ∧ _ := it_ H
         have c19b0 := eq_true c19
         have c19b1 := decide_eq_true c19
         obtain ⟨c20, H⟩ : ((IntKind.u64.wrap (x5_2 + 1)) ≤ 10) ∧ _ := it_ H
         have c20b0 := eq_true c20
         have c20b1 := decide_eq_true c20
         obtain ⟨c21, H⟩ : (((⟨#[48, 49, 50, 51, 52, 53, 54, 55, 56, 57]⟩ : ByteArray).extract (x5_2 : Int).toNat ((IntKind.u64.wrap (x5_2 + 1)) : Int).toNat).size + x3_1.size ≤ 9223372036854775807) ∧ _ := it_ H
         have c21b0 := eq_true c21
         have c21b1 := decide_eq_true c21
         try have c21b2 : (9223372036854775807 < ((⟨#[48, 49, 50, 51, 52, 53, 54, 55, 56, 57]⟩ : ByteArray).extract (x5_2 : Int).toNat ((IntKind.u64.wrap (x5_2 + 1)) : Int).toNat).size + x3_1.size) = False := eq_false (Nat.not_lt.2 c21)
         revert H
         refine bd_ fun t1192 A22 H => ?_
         have H' := ak H
         clear H
         obtain ⟨Ao23, co23, eo23⟩ := R_slice HO_4.out
         subst eo23
         go_wp2_with (first | ((with_reducible refine gate_callee (f := 69) rfl ?_); refine gl_ (some 50) Tryd.func69 #[.slice Ao23 x4_2.length co23] ?_; (with_reducible refine (attestorref02_trim.calls k2 _ _ x4_2 t1192 _ ?side1 ?side2 A22.out).mono ?_); (case side1 => exact cU_ ((R_reads' HO_4.out).2.2)); (case side2 => exact (R_reads' HO_4.out).2.1); rintro e w24 ⟨v1193, rfl, ho0, hb⟩; refine ⟨_, rfl, ?_⟩; refine nx4_ (V_elder' (vU_ HO_0.out) (R_base ho0) hb) (R_elder' (rU_ HO_4.out) (R_base ho0) hb) (R_lower (R_new' (R_newM (M := fun k_ => (w.heap.size ≤ k_)) ho0 (below_size (bU_ HB.out)) (fun k_ h_ => h_)) (R_lt (rU_ HO_4.out))) (below_size (bU_ HB.out))) (below_step (bU_ HB.out) hb) ?_; clear HO_0 HO_4 HB; intro HO_0 HO_4 HO1194 HB; clear hb ho0))
         go_roundg k2
         case measure => have := HK1.out; have := HK2.out; omega
         case rel => exact ⟨(t1192), (((⟨#[48, 49, 50, 51, 52, 53, 54, 55, 56, 57]⟩ : ByteArray).extract (x5_2 : Int).toNat ((IntKind.u64.wrap (x5_2 + 1)) : Int).toNat) ++ x3_1), gb_, H', ⟨by have := HK1.out; have := HK2.out; omega⟩, ⟨V_mono (R_V (R_mono (rU_ HO1194.out) (fun _ hk => hk.1.1))) (fun k_ hk => by first | exact ⟨(.inr (hk.1)), hk.2⟩ | exact (.inr (hk)))⟩, ⟨bU_ HB.out⟩⟩
     ·rw [if_neg c5] at H
      have c5b0 : decide (0 < (x0_1.length : Int)) = false := decide_eq_false c5
      have c5b1 : decide (0 < x0_1.length) = false := decide_eq_false (by omega)
      clear c5
      obtain rfl := Option.some.inj H
      obtain ⟨Ao25, co25, eo25⟩ := V_slice HO_0.out
      subst eo25
      go_wp2
      go_ret
      exact ⟨eW_, bU_ HB.out⟩
 ·replace c3 := Bool.eq_false_iff.mpr c3
  subst c3
  rw [if_neg (show ¬ (false = true) by decide)] at H
  obtain rfl := Option.some.inj H
  go_enter Tryd.func50, Tryd.ntmps50
  go_wp2_with (first | ((with_reducible refine gate_callee (f := 48) rfl ?_); refine gl_ (some 9) Tryd.func48 #[.slice A0 l0.length c0] ?_; (with_reducible refine (attestorref02_ValidNat.calls _ _ l0 false _ ?side1 ?side2 A2.out).mono ?_); (case side1 => exact cU_ ((V_reads' HO0.out).2.2)); (case side2 => exact (V_reads' HO0.out).2.1); rintro e w' ⟨rfl, ⟨nd, rfl⟩⟩; refine ⟨_, rfl, ?_⟩))
  go_ret
  exact ⟨eW_, bU_ HB.out⟩

end Go.Proofs.YtjjjoepnlhpjdaaDoor.Q

import Derived.Test.YtbjeemlbjkmhiaaDoorQ0
import Derived.Test.YtbjeemlbjkmhiaaDoorQ2
namespace Go.Proofs.YtbjeemlbjkmhiaaDoor.Q
open Go.RowKit Go.Proofs.YtbjeemlbjkmhiaaDoorW.PrintWords Go.Proofs.YtbjeemlbjkmhiaaDoorW.PrintLast Go.Proofs.YtbjeemlbjkmhiaaDoorW.PrintMore
open Kd (R_mono R_lower R_base R_slice R_tight R_make V_below V_mono V_lower V_elderB V_slice V_reads' C_below freshB)
attribute [local go_sem] max2_int min2_int max_two min_two max_three min_three max_four min_four   -- for this text's walks alone
set_option linter.unusedVariables false
set_option linter.unusedSimpArgs false

mutual
def a11list.l0 : Nat → List (List Int) → Int → Int → List (List Int) → Int → Option ((List (List Int)))
 | 0, _, _, _, _, _ => none
 | k + 1, x0, x1, x2, x7, x8 => if x8 < x1 then (if 0 ≤ x2 then (if (x2 : Int).toNat ≤ 35184372088832 then (a11list.l1 k x0 x1 x2 x7 x8 (List.replicate (x2 : Int).toNat 0) 0) else (none)) else (none)) else (some x7)
def a11list.l1 : Nat → List (List Int) → Int → Int → List (List Int) → Int → List Int → Int → Option ((List (List Int)))
 | 0, _, _, _, _, _, _, _ => none
 | k + 1, x0, x1, x2, x7, x8, x9, x10 => if x10 < x2 then (if x8 < (x0.length : Int) then (if 0 ≤ x8 then (if x10 < ((rd_L3 x0 x8).length : Int) then (if 0 ≤ x10 then (if x10 < (x9.length : Int) then (a11list.l1 k x0 x1 x2 x7 x8 (x9.set (x10 : Int).toNat (Int.tmod (rd (rd_L3 x0 x8) x10) 97)) (wrap64 (x10 + 1))) else (none)) else (none)) else (if x7.length < 5864062014805 then (a11list.l0 k x0 x1 x2 (x7 ++ [x9]) (wrap64 (x8 + 1))) else (none))) else (none)) else (if x7.length < 5864062014805 then (a11list.l0 k x0 x1 x2 (x7 ++ [x9]) (wrap64 (x8 + 1))) else (none))) else (if x7.length < 5864062014805 then (a11list.l0 k x0 x1 x2 (x7 ++ [x9]) (wrap64 (x8 + 1))) else (none))
end
def a11list.f (k : Nat) (l0 : List (List Int)) (a1 : Int) (a2 : Int) : Option ((List (List Int))) := a11list.l0 k l0 a1 a2 ([] : List (List Int)) 0
set_option maxHeartbeats 8000000 in
set_option maxRecDepth 100000 in
theorem a11list.calls (k : Nat) (A0 : Option Addr) (c0 : Nat) (l0 : List (List Int)) (a1 : Int) (a2 : Int) (r : List (List Int)) (w : World) (hr0 : Kd.C (Kd.slice 48 (Kd.int .u64)) w A0 l0.length l0) (hc0 : l0.length ≤ c0) (h : a11list.f k l0 a1 a2 = some r) :
  Calls Tryd.prog 20 #[.slice A0 l0.length c0, .int .i64 a1, .int .i64 a2] w fun e w' => ∃ v0_ : Value, e = .returned (v0_) ∧ Kd.S (Kd.slice 48 (Kd.int .u64)) 35 w' w.heap.size (fun _ => True) v0_ r ∧ Below w.heap.size w w' := by
 have HR0 := ak hr0
 have HC0 := ak hc0
 clear hr0 hc0
 have HB := ak (Below.refl w.heap.size w)
 have H : (a11list.l0 k l0 a1 a2 ([] : List (List Int)) 0) = some r := h
 clear h
 have H' := ak H
 clear H
 go_enter Tryd.func20, Tryd.ntmps20
 go_wp2
 go_loopg [7, 8] k (fun kq v7 v8 w' => ∃ (x7_1 : List (List Int)) (x8_1 : Int), v8 = .int .i64 x8_1 ∧ Aside0 (a11list.l0 kq l0 a1 a2 x7_1 x8_1 = some r) ∧ Aside0 (kq ≤ k) ∧ Aside0 (Kd.S (Kd.slice 48 (Kd.int .u64)) 35 w' w.heap.size (fun _ => True) v7 x7_1) ∧ Aside0 (Below w.heap.size w w'))
 case atStart => exact ⟨(([] : List (List Int))), (0), gb_, H', ⟨Nat.le_refl _⟩, ⟨by first | exact Kd.S_nil _ _ _ _ _ | exact Kd.N_nil _ _ _ _ _ | exact Kd.V_nil _ _ _ _ _ | exact Kd.Q_nil _ _ _ _ _ | exact Kd.R_nil _ _ _ _ _⟩, ⟨bU_ HB.out⟩⟩
 case round =>
  clear H'
  (try clear c2); (try clear p2)
  obtain ⟨x7_1, x8_1, rfl, HA, HK1, HO_7, HB⟩ := hrel
  cases gk with
  | zero => exact absurd HA.out (by simp [a11list.l0])
  | succ k1 =>
   have H := HA.out
   clear HA
   simp only [a11list.l0] at H
   by_cases c4 : x8_1 < a1
   ·rw [if_pos c4] at H
    have c4b0 := decide_eq_true c4
    clear c4
    obtain ⟨c5, H⟩ : (0 ≤ a2) ∧ _ := it_ H
    have c5b0 := eq_true c5
    have c5b1 := decide_eq_true c5
    clear c5
    obtain ⟨c6, H⟩ : ((a2 : Int).toNat ≤ 35184372088832) ∧ _ := it_ H
    have c6b0 := eq_true c6
    have c6b1 := decide_eq_true c6
    clear c6
    obtain ⟨y871, hy871⟩ : ∃ y_ : List Int, y_ = (List.replicate (a2 : Int).toNat 0) := ⟨_, rfl⟩
    first | rw [Option.bind_some, ← hy871] at H | rw [← hy871] at H
    have Ny871 := ak hy871
    clear hy871
    have H' := ak H
    clear H
    go_wp2_with (first | ((with_reducible refine gate_dst (N := 17) rfl ?_); (try (refine gate_guard (by rfl) ?_; dsimp only)); refine R_make (Kd.int .u64) _ 48 rfl (N := 17) rfl 35 _ _ rfl a2 ?hx ?hy Tryd.underlying35 (.int .u64 0) 8 info48 rfl (by decide) (by omega) 0 (ok := fun _ => True) (okp := fun _ => True) rfl (fun _ hk => hk) trivial od_ (Nat.le_trans (Nat.mul_le_mul_right _ (od_ : a2.toNat ≤ 35184372088832)) (by omega)) (Below.refl _ _) (Nat.le_refl _) ?_; (case hx => first | rfl); (case hy => first | rfl); intro v872 w7 ho8 hb hg_ hnew_; clear hg_ hnew_; (first | rw [← Ny871.out] at ho8 | (simp only [Int.reduceToNat] at ho8; rw [← Ny871.out] at ho8)); refine nx3_ (Kd.S_elder' (by (with_reducible repeat (first | apply Kd.S_alloc | apply Kd.S_drewN | apply Kd.S_drew)); exact HO_7.out) (R_base ho8) hb) (R_lower ho8 (below_size (bU_ HB.out))) (below_step (bU_ HB.out) hb) ?_; clear HO_7 HB; intro HO_7 HO873 HB; clear hb ho8))
    go_loopg [10] k1 (fun kq v10 w' => ∃ (x9_2 : List Int) (x10_2 : Int), v10 = .int .i64 x10_2 ∧ Aside0 (a11list.l1 kq l0 a1 a2 x7_1 x8_1 x9_2 x10_2 = some r) ∧ Aside0 (kq ≤ k1) ∧ Aside0 (Kd.S (Kd.slice 48 (Kd.int .u64)) 35 w' w.heap.size (fun k_ => some k_ ≠ (v872 : Value).ownBlock) u7 x7_1) ∧ Aside0 (Kd.R (Kd.int .u64) 48 w' w.heap.size (fun _ => True) v872 x9_2) ∧ Aside0 (Below w.heap.size w w'))
    case atStart => exact ⟨(y871), (0), gb_, H', ⟨Nat.le_refl _⟩, ⟨by (with_reducible repeat (first | apply Kd.S_alloc | apply Kd.S_drewN | apply Kd.S_drew)); exact Kd.S_mono HO_7.out (fun _ hk => hk.2)⟩, ⟨rU_ HO873.out⟩, ⟨bU_ HB.out⟩⟩
    case round =>
     clear H'
     (try clear c2); (try clear p2); (try clear c4); (try clear c4b0); (try clear c5); (try clear c5b0); (try clear c5b1); (try clear c6); (try clear c6b0); (try clear c6b1)
     obtain ⟨x9_2, x10_2, rfl, HA, HK2, HO_7, HO_9, HB⟩ := hrel
     cases gk with
     | zero => exact absurd HA.out (by simp [a11list.l1])
     | succ k2 =>
      have H := HA.out
      clear HA
      simp only [a11list.l1] at H
      by_cases c9 : x10_2 < a2
      ·rw [if_pos c9] at H
       have c9b0 := decide_eq_true c9
       clear c9
       by_cases c10 : x8_1 < (l0.length : Int)
       ·rw [if_pos c10] at H
        have c10b0 := decide_eq_true c10
        clear c10
        obtain ⟨c11, H⟩ : (0 ≤ x8_1) ∧ _ := it_ H
        have c11b0 := decide_eq_true c11
        clear c11
        by_cases c12 : x10_2 < ((rd_L3 l0 x8_1).length : Int)
        ·rw [if_pos c12] at H
         have c12b0 := decide_eq_true c12
         clear c12
         obtain ⟨c13, H⟩ : (0 ≤ x10_2) ∧ _ := it_ H
         have c13b0 := decide_eq_true c13
         clear c13
         obtain ⟨c14, H⟩ : (x10_2 < (x9_2.length : Int)) ∧ _ := it_ H
         have c14b0 := decide_eq_true c14
         clear c14
         obtain ⟨y877, hy877⟩ : ∃ y_ : List Int, y_ = (x9_2.set (x10_2 : Int).toNat (Int.tmod (rd (rd_L3 l0 x8_1) x10_2) 97)) := ⟨_, rfl⟩
         first | rw [Option.bind_some, ← hy877] at H | rw [← hy877] at H
         have Ny877 := ak hy877
         clear hy877
         have H' := ak H
         clear H
         have p874 : 0 ≤ (x8_1 : Int) := od_
         have q874 : x8_1 < (l0.length : Int) := od_
         obtain ⟨ad874, A874_0, c874_0, e874, hx874_0, hl874_0, hi874_0⟩ := at_L3 HR0.out x8_1 p874 q874
         cases e874
         replace hx874_0 := (HB.out.cell (World.block_lt_of_cell? w _ hx874_0)).trans hx874_0
         have HR874_0 := ak hi874_0
         have HC874_0 := ak hl874_0
         clear hi874_0 hl874_0
         replace p874 := eq_true p874
         replace q874 := eq_true q874
         have p875 : 0 ≤ (x8_1 : Int) := od_
         have q875 : x8_1 < (l0.length : Int) := od_
         obtain ⟨ad875, A875_0, c875_0, e875, hx875_0, hl875_0, hi875_0⟩ := at_L3 HR0.out x8_1 p875 q875
         obtain rfl : ad874 = ad875 := (by injection e875)
         replace hx875_0 := (HB.out.cell (World.block_lt_of_cell? w _ hx875_0)).trans hx875_0
         have HR875_0 := ak hi875_0
         have HC875_0 := ak hl875_0
         clear hi875_0 hl875_0
         replace p875 := eq_true p875
         replace q875 := eq_true q875
         have ea_ := Option.some.inj (hx874_0.symm.trans hx875_0)
         injection ea_ with ea_ en_ ec_
         subst ea_
         subst ec_
         clear en_
         have p876 : 0 ≤ (x10_2 : Int) := od_
         have q876 : x10_2 < ((rd_L3 l0 x8_1).length : Int) := od_
         obtain ⟨ad876, e876, hx876_0⟩ := Kd.at_int HR875_0.out x10_2 p876 q876
         cases e876
         replace hx876_0 := (HB.out.cell (World.block_lt_of_cell? w _ hx876_0)).trans hx876_0
         replace p876 := eq_true p876
         replace q876 := eq_true q876
         have p15 : 0 ≤ (x10_2 : Int) := od_
         have q15 : (x10_2 : Int) < ((x9_2.length : Int) : Int) := od_
         obtain ⟨go15, co15, eo15, gb15, gl15, cl15, HG15⟩ := Kd.R_form HO_9.out (by omega)
         (first | cases eo15 | (injection eo15 with ea_ en_ ec_; (first | subst ea_ | (injection ea_ with ea_; subst ea_)); subst ec_; clear en_))
         have GB15 := ak gb15
         have GG15 := ak HG15
         clear gb15 gl15 HG15
         obtain ⟨hx15_0, hf15_0⟩ := Kd.R_celln 0 HO_9.out (x10_2 : Int) p15 q15
         replace p15 := eq_true p15
         replace q15 := eq_true q15
         have HP16 := Kd.R_putg HO_9.out (x10_2 : Int) (Int.tmod (rd (rd_L3 l0 x8_1) x10_2) 97)
         go_wp2_with (first | ((with_reducible refine gate_store (t := 48) (p := 48) rfl ?_); refine store_event (t := 48) (p := 48) (v := ?vo_w17) (w1 := (wr.setCell ⟨go15, (x10_2 : Int).toNat, none⟩ (.int .u64 (Int.tmod (rd (rd_L3 l0 x8_1) x10_2) 97)))) ?hg ?ho ?hn ?hr ?_; (case ho => rfl); (case hg => rfl); (case hn => rfl); (case hr => first | (go_simp; done) | (go_simp; rfl)); intro w17 hw; have hg : wr.grownBy w17 (some go15) := (by rw [hw]; exact HP16.2); have hp_ : Kd.R (Kd.int .u64) 48 w17 w.heap.size (fun _ => True) (.slice (some ⟨go15, 0, none⟩) x9_2.length co15) y877 := (by rw [hw, Ny877.out]; exact HP16.1); clear HP16; refine nx3_ (Kd.S_after (v := (.slice (some ⟨go15, 0, none⟩) x9_2.length co15)) (v1 := (.slice (some ⟨go15, 0, none⟩) x9_2.length co15)) (ok := (fun _ => True)) (by (with_reducible repeat (first | apply Kd.S_alloc | apply Kd.S_drewN | apply Kd.S_drew)); exact Kd.S_mono HO_7.out (fun _ hk => ⟨trivial, hk⟩)) hg (.inl rfl)) (hp_) ((by rw [hw]; exact below_set (HB.out) GB15.out : Below w.heap.size w w17)) ?_; clear HO_7 HO_9 HB; intro HO_7 HO_9 HB; clear hg hw hp_))
         go_roundg k2
         case measure => have := HK1.out; have := HK2.out; omega
         case rel => exact ⟨(y877), (wrap64 (x10_2 + 1)), gb_, H', ⟨by have := HK1.out; have := HK2.out; omega⟩, ⟨by (with_reducible repeat (first | apply Kd.S_alloc | apply Kd.S_drewN | apply Kd.S_drew)); exact Kd.S_mono HO_7.out (fun _ hk => hk.2)⟩, ⟨rU_ HO_9.out⟩, ⟨bU_ HB.out⟩⟩
        rw [if_neg c12] at H
        have c12b0 := decide_eq_false c12
        clear c12
        obtain ⟨c18, H⟩ : (x7_1.length < 5864062014805) ∧ _ := it_ H
        have LMc18 := ak c18
        clear c18
        obtain ⟨y878, hy878⟩ : ∃ y_ : List (List Int), y_ = (x7_1 ++ [x9_2]) := ⟨_, rfl⟩
        replace H : (a11list.l0 k2 l0 a1 a2 y878 (wrap64 (x8_1 + 1))) = some r := by first | (rw [hy878]; with_reducible exact H) | (have H2_ := (Option.bind_some _ _).symm.trans H; rw [hy878]; with_reducible exact H2_) | (have H2_ := (Option.bind_some _ _).symm.trans H; with_reducible exact H2_) | with_reducible exact H | (rw [hy878]; exact H) | exact H
        have Ny878 := ak hy878
        clear hy878
        have H' := ak H
        clear H
        have p874 : 0 ≤ (x8_1 : Int) := od_
        have q874 : x8_1 < (l0.length : Int) := od_
        obtain ⟨ad874, A874_0, c874_0, e874, hx874_0, hl874_0, hi874_0⟩ := at_L3 HR0.out x8_1 p874 q874
        cases e874
        replace hx874_0 := (HB.out.cell (World.block_lt_of_cell? w _ hx874_0)).trans hx874_0
        have HR874_0 := ak hi874_0
        have HC874_0 := ak hl874_0
        clear hi874_0 hl874_0
        replace p874 := eq_true p874
        replace q874 := eq_true q874
        obtain ⟨Ao20, co20, eo20⟩ := R_slice HO_9.out
        subst eo20
        go_wp2_with (first | ((with_reducible refine gate_builtin (b := .append) (xs := #[.tmp 49, .tmp 51]) rfl ?_); (try (refine gate_guard (by rfl) ?_; dsimp only)); at_builtin; refine Kd.S_append (Kd.slice 48 (Kd.int .u64)) (w0 := w) w.heap.size rfl (.tmp 49) (.tmp 51) 42 35 (.slice none 0 0) 24 rfl Tryd.underlying42 info35 rfl (by decide) (by omega) u7 x7_1 x9_2 [.slice Ao20 x9_2.length co20] (fun _ => True) (fun k_ => some k_ = (.slice Ao20 x9_2.length co20 : Value).ownBlock) rfl rfl ?aP (fun k_ hk_ => ((R_mono (ok' := fun k_ => ((fun _ => True)) k_ ∧ some k_ ≠ (u7 : Value).ownBlock) (Kd.R_apart' (HO_9.out) (Kd.S_typed HO_7.out) (by decide)) (fun k_ hk => ⟨trivial, hk.2⟩))).1 k_ hk_.symm) ?aF ?aO ?aB ?aS ?aL ?_; (case aP => exact Kd.M_row (R_mono (R_tight rfl (R_mono (ok' := fun k_ => ((fun _ => True)) k_ ∧ some k_ ≠ (u7 : Value).ownBlock) (Kd.R_apart' (HO_9.out) (Kd.S_typed HO_7.out) (by decide)) (fun k_ hk => ⟨trivial, hk.2⟩))) (fun _ h_ => h_))); (case aB => exact (bU_ HB.out)); (case aF => exact (fun _ _ => trivial)); (case aO => exact (by (with_reducible repeat (first | apply Kd.S_alloc | apply Kd.S_drewN | apply Kd.S_drew)); exact Kd.S_mono HO_7.out (fun k_ hk => ⟨trivial, fun e_ => hk e_⟩))); (case aS => exact (below_size (bU_ HB.out))); (case aL => have := LMc18.out; omega); intro v879 w19 ho hb hg hat; rw [← Ny878.out] at ho; refine nx2_ (hb) (ho) ?_; clear HB HO_7 HO_9; intro HB HO880; clear ho hb hg hat))
        go_roundg k2
        case measure => have := HK1.out; have := HK2.out; omega
        case rel => exact ⟨(y878), (wrap64 (x8_1 + 1)), gb_, H', ⟨by have := HK1.out; have := HK2.out; omega⟩, ⟨by (with_reducible repeat (first | apply Kd.S_alloc | apply Kd.S_drewN | apply Kd.S_drew)); exact HO880.out⟩, ⟨bU_ HB.out⟩⟩
       rw [if_neg c10] at H
       have c10b0 := decide_eq_false c10
       clear c10
       obtain ⟨c21, H⟩ : (x7_1.length < 5864062014805) ∧ _ := it_ H
       have LMc21 := ak c21
       clear c21
       obtain ⟨y881, hy881⟩ : ∃ y_ : List (List Int), y_ = (x7_1 ++ [x9_2]) := ⟨_, rfl⟩
       replace H : (a11list.l0 k2 l0 a1 a2 y881 (wrap64 (x8_1 + 1))) = some r := by first | (rw [hy881]; with_reducible exact H) | (have H2_ := (Option.bind_some _ _).symm.trans H; rw [hy881]; with_reducible exact H2_) | (have H2_ := (Option.bind_some _ _).symm.trans H; with_reducible exact H2_) | with_reducible exact H | (rw [hy881]; exact H) | exact H
       have Ny881 := ak hy881
       clear hy881
       have H' := ak H
       clear H
       obtain ⟨Ao23, co23, eo23⟩ := R_slice HO_9.out
       subst eo23
       go_wp2_with (first | ((with_reducible refine gate_builtin (b := .append) (xs := #[.tmp 49, .tmp 51]) rfl ?_); (try (refine gate_guard (by rfl) ?_; dsimp only)); at_builtin; refine Kd.S_append (Kd.slice 48 (Kd.int .u64)) (w0 := w) w.heap.size rfl (.tmp 49) (.tmp 51) 42 35 (.slice none 0 0) 24 rfl Tryd.underlying42 info35 rfl (by decide) (by omega) u7 x7_1 x9_2 [.slice Ao23 x9_2.length co23] (fun _ => True) (fun k_ => some k_ = (.slice Ao23 x9_2.length co23 : Value).ownBlock) rfl rfl ?aP (fun k_ hk_ => ((R_mono (ok' := fun k_ => ((fun _ => True)) k_ ∧ some k_ ≠ (u7 : Value).ownBlock) (Kd.R_apart' (HO_9.out) (Kd.S_typed HO_7.out) (by decide)) (fun k_ hk => ⟨trivial, hk.2⟩))).1 k_ hk_.symm) ?aF ?aO ?aB ?aS ?aL ?_; (case aP => exact Kd.M_row (R_mono (R_tight rfl (R_mono (ok' := fun k_ => ((fun _ => True)) k_ ∧ some k_ ≠ (u7 : Value).ownBlock) (Kd.R_apart' (HO_9.out) (Kd.S_typed HO_7.out) (by decide)) (fun k_ hk => ⟨trivial, hk.2⟩))) (fun _ h_ => h_))); (case aB => exact (bU_ HB.out)); (case aF => exact (fun _ _ => trivial)); (case aO => exact (by (with_reducible repeat (first | apply Kd.S_alloc | apply Kd.S_drewN | apply Kd.S_drew)); exact Kd.S_mono HO_7.out (fun k_ hk => ⟨trivial, fun e_ => hk e_⟩))); (case aS => exact (below_size (bU_ HB.out))); (case aL => have := LMc21.out; omega); intro v882 w22 ho hb hg hat; rw [← Ny881.out] at ho; refine nx2_ (hb) (ho) ?_; clear HB HO_7 HO_9; intro HB HO883; clear ho hb hg hat))
       go_roundg k2
       case measure => have := HK1.out; have := HK2.out; omega
       case rel => exact ⟨(y881), (wrap64 (x8_1 + 1)), gb_, H', ⟨by have := HK1.out; have := HK2.out; omega⟩, ⟨by (with_reducible repeat (first | apply Kd.S_alloc | apply Kd.S_drewN | apply Kd.S_drew)); exact HO883.out⟩, ⟨bU_ HB.out⟩⟩
      rw [if_neg c9] at H
      have c9b0 := decide_eq_false c9
      clear c9
      obtain ⟨c24, H⟩ : (x7_1.length < 5864062014805) ∧ _ := it_ H
      have LMc24 := ak c24
      clear c24
      obtain ⟨y884, hy884⟩ : ∃ y_ : List (List Int), y_ = (x7_1 ++ [x9_2]) := ⟨_, rfl⟩
      replace H : (a11list.l0 k2 l0 a1 a2 y884 (wrap64 (x8_1 + 1))) = some r := by first | (rw [hy884]; with_reducible exact H) | (have H2_ := (Option.bind_some _ _).symm.trans H; rw [hy884]; with_reducible exact H2_) | (have H2_ := (Option.bind_some _ _).symm.trans H; with_reducible exact H2_) | with_reducible exact H | (rw [hy884]; exact H) | exact H
      have Ny884 := ak hy884
      clear hy884
      have H' := ak H
      clear H
      obtain ⟨Ao26, co26, eo26⟩ := R_slice HO_9.out
      subst eo26
      go_wp2_with (first | ((with_reducible refine gate_builtin (b := .append) (xs := #[.tmp 49, .tmp 51]) rfl ?_); (try (refine gate_guard (by rfl) ?_; dsimp only)); at_builtin; refine Kd.S_append (Kd.slice 48 (Kd.int .u64)) (w0 := w) w.heap.size rfl (.tmp 49) (.tmp 51) 42 35 (.slice none 0 0) 24 rfl Tryd.underlying42 info35 rfl (by decide) (by omega) u7 x7_1 x9_2 [.slice Ao26 x9_2.length co26] (fun _ => True) (fun k_ => some k_ = (.slice Ao26 x9_2.length co26 : Value).ownBlock) rfl rfl ?aP (fun k_ hk_ => ((R_mono (ok' := fun k_ => ((fun _ => True)) k_ ∧ some k_ ≠ (u7 : Value).ownBlock) (Kd.R_apart' (HO_9.out) (Kd.S_typed HO_7.out) (by decide)) (fun k_ hk => ⟨trivial, hk.2⟩))).1 k_ hk_.symm) ?aF ?aO ?aB ?aS ?aL ?_; (case aP => exact Kd.M_row (R_mono (R_tight rfl (R_mono (ok' := fun k_ => ((fun _ => True)) k_ ∧ some k_ ≠ (u7 : Value).ownBlock) (Kd.R_apart' (HO_9.out) (Kd.S_typed HO_7.out) (by decide)) (fun k_ hk => ⟨trivial, hk.2⟩))) (fun _ h_ => h_))); (case aB => exact (bU_ HB.out)); (case aF => exact (fun _ _ => trivial)); (case aO => exact (by (with_reducible repeat (first | apply Kd.S_alloc | apply Kd.S_drewN | apply Kd.S_drew)); exact Kd.S_mono HO_7.out (fun k_ hk => ⟨trivial, fun e_ => hk e_⟩))); (case aS => exact (below_size (bU_ HB.out))); (case aL => have := LMc24.out; omega); intro v885 w25 ho hb hg hat; rw [← Ny884.out] at ho; refine nx2_ (hb) (ho) ?_; clear HB HO_7 HO_9; intro HB HO886; clear ho hb hg hat))
      go_roundg k2
      case measure => have := HK1.out; have := HK2.out; omega
      case rel => exact ⟨(y884), (wrap64 (x8_1 + 1)), gb_, H', ⟨by have := HK1.out; have := HK2.out; omega⟩, ⟨by (with_reducible repeat (first | apply Kd.S_alloc | apply Kd.S_drewN | apply Kd.S_drew)); exact HO886.out⟩, ⟨bU_ HB.out⟩⟩
   rw [if_neg c4] at H
   have c4b0 := decide_eq_false c4
   clear c4
   obtain rfl := Option.some.inj H
   go_wp2
   go_ret
   exact ⟨_, eW_, by (with_reducible repeat (first | apply Kd.S_alloc | apply Kd.S_drewN | apply Kd.S_drew)); exact HO_7.out, bU_ HB.out⟩

def a11equal.l0 : Nat → List Int → List Int → Int → Option (Bool)
 | 0, _, _, _ => none
 | k + 1, x0, x1, x5 => if x5 < (x0.length : Int) then (if 0 ≤ x5 then (if x5 < (x1.length : Int) then (if (rd x0 x5) = (rd x1 x5) then (a11equal.l0 k x0 x1 (wrap64 (x5 + 1))) else (some false)) else (none)) else (none)) else (some true)
def a11equal.f (k : Nat) (l0 : List Int) (l1 : List Int) : Option (Bool) := a11equal.l0 k l0 l1 0
set_option maxHeartbeats 8000000 in
set_option maxRecDepth 100000 in
theorem a11equal.calls (k : Nat) (A0 : Option Addr) (c0 : Nat) (l0 : List Int) (A1 : Option Addr) (c1 : Nat) (l1 : List Int) (r : Bool) (w : World) (hr0 : Kd.C (Kd.int .u64) w A0 l0.length l0) (hc0 : l0.length ≤ c0) (hr1 : Kd.C (Kd.int .u64) w A1 l1.length l1) (hc1 : l1.length ≤ c1) (h : a11equal.f k l0 l1 = some r) :
  Calls Tryd.prog 24 #[.slice A0 l0.length c0, .slice A1 l1.length c1] w fun e w' => e = .returned (.bool r) ∧ Drawn0 w w' := by
 have HR0 := ak hr0
 have HC0 := ak hc0
 clear hr0 hc0
 have HR1 := ak hr1
 have HC1 := ak hc1
 clear hr1 hc1
 have H : (a11equal.l0 k l0 l1 0) = some r := h
 clear h
 have H' := ak H
 clear H
 go_enter Tryd.func24, Tryd.ntmps24
 go_wp2
 repeat (go_quiet (fail); try go_wp2)
 go_loopg [5] k (fun kq v5 w' => ∃ (x5_1 : Int), v5 = .int .i64 x5_1 ∧ Aside0 (a11equal.l0 kq l0 l1 x5_1 = some r) ∧ Aside0 (kq ≤ k) ∧ Drawn0 w w')
 case atStart => exact ⟨(0), gb_, H', ⟨Nat.le_refl _⟩, by repeat (first | exact Drawn0.refl _ | apply Drawn0.step)⟩
 case round =>
  clear H'
  (try clear c1); (try clear c2); (try clear p2)
  obtain ⟨x5_1, rfl, HA, HK1, ⟨m1, rfl⟩⟩ := hrel
  cases gk with
  | zero => exact absurd HA.out (by simp [a11equal.l0])
  | succ k1 =>
   have H := HA.out
   clear HA
   simp only [a11equal.l0] at H
   by_cases c3 : x5_1 < (l0.length : Int)
   ·rw [if_pos c3] at H
    have c3b0 := decide_eq_true c3
    clear c3
    obtain ⟨c4, H⟩ : (0 ≤ x5_1) ∧ _ := it_ H
    have c4b0 := decide_eq_true c4
    clear c4
    obtain ⟨c5, H⟩ : (x5_1 < (l1.length : Int)) ∧ _ := it_ H
    have c5b0 := decide_eq_true c5
    clear c5
    by_cases c6 : (rd l0 x5_1) = (rd l1 x5_1)
    ·rw [if_pos c6] at H
     have c6b0 := beq_iff_eq.mpr c6
     have c6b1 := bne_eq_false_iff_eq.mpr c6
     clear c6
     have H' := ak H
     clear H
     have p887 : 0 ≤ (x5_1 : Int) := od_
     have q887 : x5_1 < (l0.length : Int) := od_
     obtain ⟨ad887, e887, hx887_0⟩ := Kd.at_int HR0.out x5_1 p887 q887
     cases e887
     replace p887 := eq_true p887
     replace q887 := eq_true q887
     have p888 : 0 ≤ (x5_1 : Int) := od_
     have q888 : x5_1 < (l1.length : Int) := od_
     obtain ⟨ad888, e888, hx888_0⟩ := Kd.at_int HR1.out x5_1 p888 q888
     cases e888
     replace p888 := eq_true p888
     replace q888 := eq_true q888
     go_wp2
     repeat (go_quiet (fail); try go_wp2)
     go_roundg k1
     case measure => have := HK1.out; omega
     case rel => exact ⟨(wrap64 (x5_1 + 1)), gb_, H', ⟨by have := HK1.out; omega⟩, by repeat (first | exact Drawn0.refl _ | apply Drawn0.step)⟩
    rw [if_neg c6] at H
    have c6b0 := beq_eq_false_iff_ne.mpr c6
    have c6b1 := bne_iff_ne.mpr c6
    obtain rfl := Option.some.inj H
    have p887 : 0 ≤ (x5_1 : Int) := od_
    have q887 : x5_1 < (l0.length : Int) := od_
    obtain ⟨ad887, e887, hx887_0⟩ := Kd.at_int HR0.out x5_1 p887 q887
    cases e887
    replace p887 := eq_true p887
    replace q887 := eq_true q887
    have p888 : 0 ≤ (x5_1 : Int) := od_
    have q888 : x5_1 < (l1.length : Int) := od_
    obtain ⟨ad888, e888, hx888_0⟩ := Kd.at_int HR1.out x5_1 p888 q888
    cases e888
    replace p888 := eq_true p888
    replace q888 := eq_true q888
    go_wp2
    repeat (go_quiet (fail); try go_wp2)
    go_ret
    exact ⟨by first | rfl | (simp; done) | (simp [*]; done), by repeat (first | exact Drawn0.refl _ | apply Drawn0.step)⟩
   rw [if_neg c3] at H
   have c3b0 := decide_eq_false c3
   clear c3
   obtain rfl := Option.some.inj H
   go_wp2
   repeat (go_quiet (fail); try go_wp2)
   go_ret
   exact ⟨by first | rfl | (simp; done) | (simp [*]; done), by repeat (first | exact Drawn0.refl _ | apply Drawn0.step)⟩

def a11often.l0 : Nat → List Int → List (List Int) → Int → Int → Option (Int)
 | 0, _, _, _, _ => none
 | k + 1, x0, x1, x5, x6 => if x6 < (x1.length : Int) then (if 0 ≤ x6 then ((a11equal.f k x0 (rd_L3 x1 x6)).bind fun t890 => (if t890 = true then (a11often.l0 k x0 x1 (wrap64 (x5 + 1)) (wrap64 (x6 + 1))) else (a11often.l0 k x0 x1 x5 (wrap64 (x6 + 1))))) else (none)) else (some x5)
def a11often.f (k : Nat) (l0 : List Int) (l1 : List (List Int)) : Option (Int) := a11often.l0 k l0 l1 0 0
set_option maxHeartbeats 8000000 in
set_option maxRecDepth 100000 in
theorem a11often.calls (k : Nat) (A0 : Option Addr) (c0 : Nat) (l0 : List Int) (A1 : Option Addr) (c1 : Nat) (l1 : List (List Int)) (r : Int) (w : World) (hr0 : Kd.C (Kd.int .u64) w A0 l0.length l0) (hc0 : l0.length ≤ c0) (hr1 : Kd.C (Kd.slice 48 (Kd.int .u64)) w A1 l1.length l1) (hc1 : l1.length ≤ c1) (h : a11often.f k l0 l1 = some r) :
  Calls Tryd.prog 21 #[.slice A0 l0.length c0, .slice A1 l1.length c1] w fun e w' => e = .returned (.int .i64 r) ∧ Drawn0 w w' := by
 have HR0 := ak hr0
 have HC0 := ak hc0
 clear hr0 hc0
 have HR1 := ak hr1
 have HC1 := ak hc1
 clear hr1 hc1
 have H : (a11often.l0 k l0 l1 0 0) = some r := h
 clear h
 have H' := ak H
 clear H
 go_enter Tryd.func21, Tryd.ntmps21
 go_wp2
 go_loopg [5, 6] k (fun kq v5 v6 w' => ∃ (x5_1 : Int) (x6_1 : Int), v5 = .int .i64 x5_1 ∧ v6 = .int .i64 x6_1 ∧ Aside0 (a11often.l0 kq l0 l1 x5_1 x6_1 = some r) ∧ Aside0 (kq ≤ k) ∧ Drawn0 w w')
 case atStart => exact ⟨(0), (0), gb_, gb_, H', ⟨Nat.le_refl _⟩, by repeat (first | exact Drawn0.refl _ | apply Drawn0.step)⟩
 case round =>
  clear H'
  (try clear c1); (try clear c2); (try clear p2)
  obtain ⟨x5_1, x6_1, rfl, rfl, HA, HK1, ⟨m1, rfl⟩⟩ := hrel
  cases gk with
  | zero => exact absurd HA.out (by simp [a11often.l0])
  | succ k1 =>
   have H := HA.out
   clear HA
   simp only [a11often.l0] at H
   by_cases c3 : x6_1 < (l1.length : Int)
   ·rw [if_pos c3] at H
    have c3b0 := decide_eq_true c3
    clear c3
    obtain ⟨c4, H⟩ : (0 ≤ x6_1) ∧ _ := it_ H
    have c4b0 := decide_eq_true c4
    clear c4
    revert H
    refine bd_ fun t890 A5 H => ?_
    by_cases c6 : t890 = true
    ·subst c6
     rw [if_pos rfl] at H
     have H' := ak H
     clear H
     have p889 : 0 ≤ (x6_1 : Int) := od_
     have q889 : x6_1 < (l1.length : Int) := od_
     obtain ⟨ad889, A889_0, c889_0, e889, hx889_0, hl889_0, hi889_0⟩ := at_L3 HR1.out x6_1 p889 q889
     cases e889
     have HR889_0 := ak hi889_0
     have HC889_0 := ak hl889_0
     clear hi889_0 hl889_0
     replace p889 := eq_true p889
     replace q889 := eq_true q889
     go_wp2_with (first | ((with_reducible refine gate_callee (f := 24) rfl ?_); refine gl_ (some 18) Tryd.func24 #[.slice A0 l0.length c0, .slice A889_0 (rd_L3 l1 x6_1).length c889_0] ?_; (with_reducible refine (a11equal.calls k1 _ _ l0 _ _ (rd_L3 l1 x6_1) true _ ?side1 ?side2 ?side3 ?side4 A5.out).mono ?_); (case side1 => exact cU_ HR0.out); (case side2 => exact HC0.out); (case side3 => exact cU_ HR889_0.out); (case side4 => exact HC889_0.out); rintro e w' ⟨rfl, ⟨nd, rfl⟩⟩; refine ⟨_, rfl, ?_⟩))
     go_roundg k1
     case measure => have := HK1.out; omega
     case rel => exact ⟨(wrap64 (x5_1 + 1)), (wrap64 (x6_1 + 1)), gb_, gb_, H', ⟨by have := HK1.out; omega⟩, by repeat (first | exact Drawn0.refl _ | apply Drawn0.step)⟩
    replace c6 := Bool.eq_false_iff.mpr c6
    subst c6
    rw [if_neg (show ¬ (false = true) by decide)] at H
    have H' := ak H
    clear H
    have p889 : 0 ≤ (x6_1 : Int) := od_
    have q889 : x6_1 < (l1.length : Int) := od_
    obtain ⟨ad889, A889_0, c889_0, e889, hx889_0, hl889_0, hi889_0⟩ := at_L3 HR1.out x6_1 p889 q889
    cases e889
    have HR889_0 := ak hi889_0
    have HC889_0 := ak hl889_0
    clear hi889_0 hl889_0
    replace p889 := eq_true p889
    replace q889 := eq_true q889
    go_wp2_with (first | ((with_reducible refine gate_callee (f := 24) rfl ?_); refine gl_ (some 18) Tryd.func24 #[.slice A0 l0.length c0, .slice A889_0 (rd_L3 l1 x6_1).length c889_0] ?_; (with_reducible refine (a11equal.calls k1 _ _ l0 _ _ (rd_L3 l1 x6_1) false _ ?side1 ?side2 ?side3 ?side4 A5.out).mono ?_); (case side1 => exact cU_ HR0.out); (case side2 => exact HC0.out); (case side3 => exact cU_ HR889_0.out); (case side4 => exact HC889_0.out); rintro e w' ⟨rfl, ⟨nd, rfl⟩⟩; refine ⟨_, rfl, ?_⟩))
    go_roundg k1
    case measure => have := HK1.out; omega
    case rel => exact ⟨(x5_1), (wrap64 (x6_1 + 1)), gb_, gb_, H', ⟨by have := HK1.out; omega⟩, by repeat (first | exact Drawn0.refl _ | apply Drawn0.step)⟩
   rw [if_neg c3] at H
   have c3b0 := decide_eq_false c3
   clear c3
   obtain rfl := Option.some.inj H
   go_wp2
   go_ret
   exact ⟨by first | rfl | (simp; done) | (simp [*]; done), by repeat (first | exact Drawn0.refl _ | apply Drawn0.step)⟩

def a11part.f (k : Nat) (a0 : Int) (a1 : Int) (l2_0 : List Int) (l2_1 : List Int) (a3 : Int) : Option (Bool) := (ratio_Of.f k (IntKind.u64.wrap (a0)) (IntKind.u64.wrap (a1))).bind fun bt901 => (if a3 = 0 then (if bt901.2.2 = 0 then ((ratio_Order.f k bt901.1 bt901.2.1 l2_0 l2_1).bind fun t909 => (if t909 ≤ 0 then ((ratio_Valid.f k l2_0 l2_1).bind fun t910 => (some t910)) else (some false))) else (some false)) else (some false))
set_option maxHeartbeats 8000000 in
set_option maxRecDepth 100000 in
theorem a11part.calls (k : Nat) (a0 : Int) (a1 : Int) (A2_0 : Option Addr) (c2_0 : Nat) (l2_0 : List Int) (A2_1 : Option Addr) (c2_1 : Nat) (l2_1 : List Int) (a3 : Int) (r : Bool) (w : World) (hr2_0 : Kd.C (Kd.int .u32) w A2_0 l2_0.length l2_0) (hc2_0 : l2_0.length ≤ c2_0) (hr2_1 : Kd.C (Kd.int .u32) w A2_1 l2_1.length l2_1) (hc2_1 : l2_1.length ≤ c2_1) (h : a11part.f k a0 a1 l2_0 l2_1 a3 = some r) :
  Calls Tryd.prog 23 #[.int .i64 a0, .int .i64 a1, .agg #[.slice A2_0 l2_0.length c2_0, .slice A2_1 l2_1.length c2_1], .int .i64 a3] w fun e w' => e = .returned (.bool r) ∧ Below w.heap.size w w' := by
 have hu26 := Tryd.underlying26
 have HR2_0 := ak hr2_0
 have HC2_0 := ak hc2_0
 clear hr2_0 hc2_0
 have HR2_1 := ak hr2_1
 have HC2_1 := ak hc2_1
 clear hr2_1 hc2_1
 have HB := ak (Below.refl w.heap.size w)
 have H := h
 clear h
 unfold a11part.f at H
 revert H
 refine bd3_ fun t901 t904 t907 A5 H => ?_
 try dsimp only at H
 by_cases c6 : a3 = 0
 ·rw [if_pos c6] at H
  have c6b0 := beq_iff_eq.mpr c6
  have c6b1 := bne_eq_false_iff_eq.mpr c6
  clear c6
  by_cases c7 : t907 = 0
  ·rw [if_pos c7] at H
   have c7b0 := beq_iff_eq.mpr c7
   have c7b1 := bne_eq_false_iff_eq.mpr c7
   clear c7
   revert H
   refine bd_ fun t909 A8 H => ?_
   by_cases c9 : t909 ≤ 0
   ·rw [if_pos c9] at H
    have c9b0 := decide_eq_true c9
    clear c9
    revert H
    refine bd_ fun t910 A10 H => ?_
    obtain rfl := Option.some.inj H
    go_enter Tryd.func23, Tryd.ntmps23
    go_wp2_with (first | ((with_reducible refine gate_dst (N := 6) rfl ?_); refine bx_ 6 26 #[.slice A2_0 l2_0.length c2_0, .slice A2_1 l2_1.length c2_1] ?_; intro gb900 hg w11 hbox hb; refine nx4_ (below_step (bU_ HB.out) hb) (hbox) ((hs_ hg (below_size (bU_ HB.out)))) ((hs_ hg (below_size (bU_ HB.out)))) ?_; clear HB; intro HB BK900 GW900 GE900; clear hb hbox hg) | ((with_reducible refine gate_callee (f := 45) rfl ?_); refine gl_ (some 16) Tryd.func45 #[.int .u64 (IntKind.u64.wrap (a0)), .int .u64 (IntKind.u64.wrap (a1))] ?_; (with_reducible refine (ratio_Of.calls k (IntKind.u64.wrap (a0)) (IntKind.u64.wrap (a1)) t901 t904 t907 _ A5.out).mono ?_); rintro e w12 ⟨v902, v905, rfl, ho0, ho1, hb⟩; refine ⟨_, rfl, ?_⟩; refine nx4_ (V_lower (V_mono (ok' := fun k_ => k_ ≠ gb900) ho0 (fun k_ hk_ => (freshB (kU_ BK900.out) k_ hk_))) (below_size sU_)) (V_lower (V_mono (ok' := fun k_ => k_ ≠ gb900) ho1 (fun k_ hk_ => (freshB (kU_ BK900.out) k_ hk_))) (below_size sU_)) (blk_below (kU_ BK900.out) hb) (below_step sU_ hb) ?_; clear BK900 HB; intro HO903 HO906 BK900 HB; clear hb ho0 ho1) | ((with_reducible refine gate_dst (N := 9) rfl ?_); refine bx_ 9 26 #[.slice none 0 0, .slice none 0 0] ?_; intro gb908 hg w13 hbox hb; refine nx9_ (V_below (V_elderB (vU_ HO903.out) gb908 (Nat.le_of_eq hg.symm)) hb) (V_below (V_elderB (vU_ HO906.out) gb908 (Nat.le_of_eq hg.symm)) hb) (blk_below (kU_ BK900.out) hb) (below_step sU_ hb) (hbox) ((hs_ hg (below_size sU_) : w.heap.size ≤ gb908)) ((hs_ hg (below_size sU_) : w.heap.size ≤ gb908)) ((hl_ hg (kU_ BK900.out))) ((hm_ hg (kU_ BK900.out))) ?_; clear HO903 HO906 BK900 HB; intro HO903 HO906 BK900 HB BK908 GW908 GE908 NB900_908 NB908_900; clear hb hbox hg; obtain ⟨Ao14, co14, eo14⟩ := V_slice HO903.out; subst eo14; have hnb15 := NB908_900.out; have hnc15 := NB900_908.out; have hcz16_0 := bc0_ BK908.out; have hcz16_1 := bc1_ BK908.out; have hfz16_0 := bkf9_ BK908.out 0; have hfz16_1 := bkf9_ BK908.out 1; obtain ⟨Ao17, co17, eo17⟩ := V_slice HO906.out; subst eo17; have hcz18_0 := bc0_ BK900.out; have hcz18_1 := bc1_ BK900.out; have hfz18_0 := bkf9_ BK900.out 0; have hfz18_1 := bkf9_ BK900.out 1) | (go_at_call 42; (with_reducible refine (ratio_Order.calls k _ _ t901 _ _ t904 _ _ l2_0 _ _ l2_1 t909 _ ?side1 ?side2 ?side3 ?side4 ?side5 ?side6 ?side7 ?side8 A8.out).mono ?_); (case side1 => refine (V_reads' (e := 115) (base := w.heap.size) (ok := fun k_ => (k_ ≠ gb900 ∧ k_ ≠ gb908)) (n := t901.length) (c := co14) ?_).2.2; exact (vL_ (vf_ gb908 HO903.out fun _ hk => hk.2))); (case side2 => exact (V_reads' HO903.out).2.1); (case side3 => refine (V_reads' (e := 115) (base := w.heap.size) (ok := fun k_ => (k_ ≠ gb900 ∧ k_ ≠ gb908)) (n := t904.length) (c := co17) ?_).2.2; exact (vL_ (vf_ gb908 HO906.out fun _ hk => hk.2))); (case side4 => exact (V_reads' HO906.out).2.1); (case side5 => exact C_below HR2_0.out sU_); (case side6 => exact HC2_0.out); (case side7 => exact C_below HR2_1.out sU_); (case side8 => exact HC2_1.out); rintro e w19 ⟨rfl, hb⟩; refine nx5_ (V_below (vL_ (vf_ gb908 HO903.out fun _ hk => hk.2)) hb) (V_below (vL_ (vf_ gb908 HO906.out fun _ hk => hk.2)) hb) (blk_below (g := gb900) (o := .cells #[.slice A2_0 l2_0.length c2_0, .slice A2_1 l2_1.length c2_1] 26 (0, 0)) kp_ hb) (blk_below (g := gb908) (o := .cells #[.slice Ao14 t901.length co14, .slice Ao17 t904.length co17] 26 (0, 0)) kp_ hb) (below_step sU_ hb) ?_; clear HO903 HO906 BK900 BK908 HB; intro HO903 HO906 BK900 BK908 HB; clear hb; have hcz20_0 := bc0_ BK900.out; have hcz20_1 := bc1_ BK900.out; have hfz20_0 := bkf9_ BK900.out 0; have hfz20_1 := bkf9_ BK900.out 1) | (go_at_call 41; (with_reducible refine (ratio_Valid.calls k _ _ l2_0 _ _ l2_1 t910 _ ?side1 ?side2 ?side3 ?side4 A10.out).mono ?_); (case side1 => exact cU_ (C_below HR2_0.out HB.out)); (case side2 => exact HC2_0.out); (case side3 => exact cU_ (C_below HR2_1.out HB.out)); (case side4 => exact HC2_1.out); rintro e w21 ⟨rfl, hb⟩; refine nx5_ (V_below (vU_ HO903.out) hb) (V_below (vU_ HO906.out) hb) (blk_below (kU_ BK900.out) hb) (blk_below (kU_ BK908.out) hb) (below_step sU_ hb) ?_; clear HO903 HO906 BK900 BK908 HB; intro HO903 HO906 BK900 BK908 HB; clear hb))
    go_ret
    exact ⟨eW_, sU_⟩
   rw [if_neg c9] at H
   have c9b0 := decide_eq_false c9
   clear c9
   obtain rfl := Option.some.inj H
   go_enter Tryd.func23, Tryd.ntmps23
   go_wp2_with (first | ((with_reducible refine gate_dst (N := 6) rfl ?_); refine bx_ 6 26 #[.slice A2_0 l2_0.length c2_0, .slice A2_1 l2_1.length c2_1] ?_; intro gb900 hg w22 hbox hb; refine nx4_ (below_step (bU_ HB.out) hb) (hbox) ((hs_ hg (below_size (bU_ HB.out)))) ((hs_ hg (below_size (bU_ HB.out)))) ?_; clear HB; intro HB BK900 GW900 GE900; clear hb hbox hg) | ((with_reducible refine gate_callee (f := 45) rfl ?_); refine gl_ (some 16) Tryd.func45 #[.int .u64 (IntKind.u64.wrap (a0)), .int .u64 (IntKind.u64.wrap (a1))] ?_; (with_reducible refine (ratio_Of.calls k (IntKind.u64.wrap (a0)) (IntKind.u64.wrap (a1)) t901 t904 t907 _ A5.out).mono ?_); rintro e w23 ⟨v902, v905, rfl, ho0, ho1, hb⟩; refine ⟨_, rfl, ?_⟩; refine nx4_ (V_lower (V_mono (ok' := fun k_ => k_ ≠ gb900) ho0 (fun k_ hk_ => (freshB (kU_ BK900.out) k_ hk_))) (below_size sU_)) (V_lower (V_mono (ok' := fun k_ => k_ ≠ gb900) ho1 (fun k_ hk_ => (freshB (kU_ BK900.out) k_ hk_))) (below_size sU_)) (blk_below (kU_ BK900.out) hb) (below_step sU_ hb) ?_; clear BK900 HB; intro HO903 HO906 BK900 HB; clear hb ho0 ho1) | ((with_reducible refine gate_dst (N := 9) rfl ?_); refine bx_ 9 26 #[.slice none 0 0, .slice none 0 0] ?_; intro gb908 hg w24 hbox hb; refine nx9_ (V_below (V_elderB (vU_ HO903.out) gb908 (Nat.le_of_eq hg.symm)) hb) (V_below (V_elderB (vU_ HO906.out) gb908 (Nat.le_of_eq hg.symm)) hb) (blk_below (kU_ BK900.out) hb) (below_step sU_ hb) (hbox) ((hs_ hg (below_size sU_) : w.heap.size ≤ gb908)) ((hs_ hg (below_size sU_) : w.heap.size ≤ gb908)) ((hl_ hg (kU_ BK900.out))) ((hm_ hg (kU_ BK900.out))) ?_; clear HO903 HO906 BK900 HB; intro HO903 HO906 BK900 HB BK908 GW908 GE908 NB900_908 NB908_900; clear hb hbox hg; obtain ⟨Ao25, co25, eo25⟩ := V_slice HO903.out; subst eo25; have hnb26 := NB908_900.out; have hnc26 := NB900_908.out; have hcz27_0 := bc0_ BK908.out; have hcz27_1 := bc1_ BK908.out; have hfz27_0 := bkf9_ BK908.out 0; have hfz27_1 := bkf9_ BK908.out 1; obtain ⟨Ao28, co28, eo28⟩ := V_slice HO906.out; subst eo28; have hcz29_0 := bc0_ BK900.out; have hcz29_1 := bc1_ BK900.out; have hfz29_0 := bkf9_ BK900.out 0; have hfz29_1 := bkf9_ BK900.out 1) | (go_at_call 42; (with_reducible refine (ratio_Order.calls k _ _ t901 _ _ t904 _ _ l2_0 _ _ l2_1 t909 _ ?side1 ?side2 ?side3 ?side4 ?side5 ?side6 ?side7 ?side8 A8.out).mono ?_); (case side1 => refine (V_reads' (e := 115) (base := w.heap.size) (ok := fun k_ => (k_ ≠ gb900 ∧ k_ ≠ gb908)) (n := t901.length) (c := co25) ?_).2.2; exact (vL_ (vf_ gb908 HO903.out fun _ hk => hk.2))); (case side2 => exact (V_reads' HO903.out).2.1); (case side3 => refine (V_reads' (e := 115) (base := w.heap.size) (ok := fun k_ => (k_ ≠ gb900 ∧ k_ ≠ gb908)) (n := t904.length) (c := co28) ?_).2.2; exact (vL_ (vf_ gb908 HO906.out fun _ hk => hk.2))); (case side4 => exact (V_reads' HO906.out).2.1); (case side5 => exact C_below HR2_0.out sU_); (case side6 => exact HC2_0.out); (case side7 => exact C_below HR2_1.out sU_); (case side8 => exact HC2_1.out); rintro e w30 ⟨rfl, hb⟩; refine nx5_ (V_below (vL_ (vf_ gb908 HO903.out fun _ hk => hk.2)) hb) (V_below (vL_ (vf_ gb908 HO906.out fun _ hk => hk.2)) hb) (blk_below (g := gb900) (o := .cells #[.slice A2_0 l2_0.length c2_0, .slice A2_1 l2_1.length c2_1] 26 (0, 0)) kp_ hb) (blk_below (g := gb908) (o := .cells #[.slice Ao25 t901.length co25, .slice Ao28 t904.length co28] 26 (0, 0)) kp_ hb) (below_step sU_ hb) ?_; clear HO903 HO906 BK900 BK908 HB; intro HO903 HO906 BK900 BK908 HB; clear hb))
   go_ret
   exact ⟨eW_, sU_⟩
  rw [if_neg c7] at H
  have c7b0 := beq_eq_false_iff_ne.mpr c7
  have c7b1 := bne_iff_ne.mpr c7
  obtain rfl := Option.some.inj H
  go_enter Tryd.func23, Tryd.ntmps23
  go_wp2_with (first | ((with_reducible refine gate_dst (N := 6) rfl ?_); refine bx_ 6 26 #[.slice A2_0 l2_0.length c2_0, .slice A2_1 l2_1.length c2_1] ?_; intro gb900 hg w31 hbox hb; refine nx4_ (below_step (bU_ HB.out) hb) (hbox) ((hs_ hg (below_size (bU_ HB.out)))) ((hs_ hg (below_size (bU_ HB.out)))) ?_; clear HB; intro HB BK900 GW900 GE900; clear hb hbox hg) | ((with_reducible refine gate_callee (f := 45) rfl ?_); refine gl_ (some 16) Tryd.func45 #[.int .u64 (IntKind.u64.wrap (a0)), .int .u64 (IntKind.u64.wrap (a1))] ?_; (with_reducible refine (ratio_Of.calls k (IntKind.u64.wrap (a0)) (IntKind.u64.wrap (a1)) t901 t904 t907 _ A5.out).mono ?_); rintro e w32 ⟨v902, v905, rfl, ho0, ho1, hb⟩; refine ⟨_, rfl, ?_⟩; refine nx4_ (V_lower (V_mono (ok' := fun k_ => k_ ≠ gb900) ho0 (fun k_ hk_ => (freshB (kU_ BK900.out) k_ hk_))) (below_size sU_)) (V_lower (V_mono (ok' := fun k_ => k_ ≠ gb900) ho1 (fun k_ hk_ => (freshB (kU_ BK900.out) k_ hk_))) (below_size sU_)) (blk_below (kU_ BK900.out) hb) (below_step sU_ hb) ?_; clear BK900 HB; intro HO903 HO906 BK900 HB; clear hb ho0 ho1) | ((with_reducible refine gate_dst (N := 9) rfl ?_); refine bx_ 9 26 #[.slice none 0 0, .slice none 0 0] ?_; intro gb908 hg w33 hbox hb; refine nx9_ (V_below (V_elderB (vU_ HO903.out) gb908 (Nat.le_of_eq hg.symm)) hb) (V_below (V_elderB (vU_ HO906.out) gb908 (Nat.le_of_eq hg.symm)) hb) (blk_below (kU_ BK900.out) hb) (below_step sU_ hb) (hbox) ((hs_ hg (below_size sU_) : w.heap.size ≤ gb908)) ((hs_ hg (below_size sU_) : w.heap.size ≤ gb908)) ((hl_ hg (kU_ BK900.out))) ((hm_ hg (kU_ BK900.out))) ?_; clear HO903 HO906 BK900 HB; intro HO903 HO906 BK900 HB BK908 GW908 GE908 NB900_908 NB908_900; clear hb hbox hg; obtain ⟨Ao34, co34, eo34⟩ := V_slice HO903.out; subst eo34; have hnb35 := NB908_900.out; have hnc35 := NB900_908.out; have hcz36_0 := bc0_ BK908.out; have hcz36_1 := bc1_ BK908.out; have hfz36_0 := bkf9_ BK908.out 0; have hfz36_1 := bkf9_ BK908.out 1; obtain ⟨Ao37, co37, eo37⟩ := V_slice HO906.out; subst eo37))
  go_ret
  exact ⟨eW_, sU_⟩
 rw [if_neg c6] at H
 have c6b0 := beq_eq_false_iff_ne.mpr c6
 have c6b1 := bne_iff_ne.mpr c6
 obtain rfl := Option.some.inj H
 go_enter Tryd.func23, Tryd.ntmps23
 go_wp2_with (first | ((with_reducible refine gate_dst (N := 6) rfl ?_); refine bx_ 6 26 #[.slice A2_0 l2_0.length c2_0, .slice A2_1 l2_1.length c2_1] ?_; intro gb900 hg w38 hbox hb; refine nx4_ (below_step (bU_ HB.out) hb) (hbox) ((hs_ hg (below_size (bU_ HB.out)))) ((hs_ hg (below_size (bU_ HB.out)))) ?_; clear HB; intro HB BK900 GW900 GE900; clear hb hbox hg) | ((with_reducible refine gate_callee (f := 45) rfl ?_); refine gl_ (some 16) Tryd.func45 #[.int .u64 (IntKind.u64.wrap (a0)), .int .u64 (IntKind.u64.wrap (a1))] ?_; (with_reducible refine (ratio_Of.calls k (IntKind.u64.wrap (a0)) (IntKind.u64.wrap (a1)) t901 t904 t907 _ A5.out).mono ?_); rintro e w39 ⟨v902, v905, rfl, ho0, ho1, hb⟩; refine ⟨_, rfl, ?_⟩; refine nx4_ (V_lower (V_mono (ok' := fun k_ => k_ ≠ gb900) ho0 (fun k_ hk_ => (freshB (kU_ BK900.out) k_ hk_))) (below_size sU_)) (V_lower (V_mono (ok' := fun k_ => k_ ≠ gb900) ho1 (fun k_ hk_ => (freshB (kU_ BK900.out) k_ hk_))) (below_size sU_)) (blk_below (kU_ BK900.out) hb) (below_step sU_ hb) ?_; clear BK900 HB; intro HO903 HO906 BK900 HB; clear hb ho0 ho1) | ((with_reducible refine gate_dst (N := 9) rfl ?_); refine bx_ 9 26 #[.slice none 0 0, .slice none 0 0] ?_; intro gb908 hg w40 hbox hb; refine nx9_ (V_below (V_elderB (vU_ HO903.out) gb908 (Nat.le_of_eq hg.symm)) hb) (V_below (V_elderB (vU_ HO906.out) gb908 (Nat.le_of_eq hg.symm)) hb) (blk_below (kU_ BK900.out) hb) (below_step sU_ hb) (hbox) ((hs_ hg (below_size sU_) : w.heap.size ≤ gb908)) ((hs_ hg (below_size sU_) : w.heap.size ≤ gb908)) ((hl_ hg (kU_ BK900.out))) ((hm_ hg (kU_ BK900.out))) ?_; clear HO903 HO906 BK900 HB; intro HO903 HO906 BK900 HB BK908 GW908 GE908 NB900_908 NB908_900; clear hb hbox hg; obtain ⟨Ao41, co41, eo41⟩ := V_slice HO903.out; subst eo41; have hnb42 := NB908_900.out; have hnc42 := NB900_908.out; have hcz43_0 := bc0_ BK908.out; have hcz43_1 := bc1_ BK908.out; have hfz43_0 := bkf9_ BK908.out 0; have hfz43_1 := bkf9_ BK908.out 1; obtain ⟨Ao44, co44, eo44⟩ := V_slice HO906.out; subst eo44))
 go_ret
 exact ⟨eW_, sU_⟩

end Go.Proofs.YtbjeemlbjkmhiaaDoor.Q

import Derived.Test.YtbjeemlbjkmhiaaDoorQ0
import Derived.Test.YtbjeemlbjkmhiaaDoorQ5
namespace Go.Proofs.YtbjeemlbjkmhiaaDoor.Q
open Go.RowKit Go.Proofs.YtbjeemlbjkmhiaaDoorW.PrintWords Go.Proofs.YtbjeemlbjkmhiaaDoorW.PrintLast Go.Proofs.YtbjeemlbjkmhiaaDoorW.PrintMore
open Kd (R_mono R_slice R_tight V_mono V_mk C_below F_below C_F C_of_reads heap_int)
attribute [local go_sem] max2_int min2_int max_two min_two max_three min_three max_four min_four   -- for this text's walks alone
set_option linter.unusedVariables false
set_option linter.unusedSimpArgs false

def attestorlaw11_columns.l0 : Nat → List (List Int) → Int → Int → List (List Int) → Int → Option ((List (List Int)))
 | 0, _, _, _, _, _ => none
 | k + 1, x0, x1, x2, x7, x8 => if x8 < (x0.length : Int) then (if x8 < x1 then (if 0 ≤ x8 then (if 0 ≤ (mn ((rd_L3 x0 x8).length : Int) x2) then (if (mn ((rd_L3 x0 x8).length : Int) x2) ≤ ((rd_L3 x0 x8).length : Int) then (if ([] : List Int).length + ((rd_L3 x0 x8).take ((mn ((rd_L3 x0 x8).length : Int) x2) : Int).toNat).length < 17592186044416 then (if x7.length < 5864062014805 then (attestorlaw11_columns.l0 k x0 x1 x2 (x7 ++ [(([] : List Int) ++ ((rd_L3 x0 x8).take ((mn ((rd_L3 x0 x8).length : Int) x2) : Int).toNat))]) (wrap64 (x8 + 1))) else (none)) else (none)) else (none)) else (none)) else (none)) else (some x7)) else (some x7)
def attestorlaw11_columns.f (k : Nat) (l0 : List (List Int)) (a1 : Int) (a2 : Int) : Option ((List (List Int))) := attestorlaw11_columns.l0 k l0 a1 a2 ([] : List (List Int)) 0
def attestorlaw11_columns.T6 : Bool × List (List Nat × List Nat) := (true, [([], []), ([], []), ([], []), ([], []), ([2, 3], [2, 3]), ([4], [4]), ([], []), ([], []), ([6, 7], [6, 7]), ([8], [8]), ([9], [9]), ([], []), ([10, 11], [10, 11]), ([5, 12], [5, 12]), ([1, 13], [1, 13]), ([14], [14]), ([0, 15, 14], [0, 15]), ([16, 16, 0, 1, 2, 3, 4, 5, 6, 7, 8, 9, 10, 11, 12, 13, 14, 15, 16], [0, 16])])
def attestorlaw11_columns.B6 : List Nat := [0, 0, 0, 0, 12, 28, 0, 0, 192, 448, 960, 0, 4032, 8188, 16382, 32766, 65535, 131071]
theorem attestorlaw11_columns.tab6 : rtab .any (opsOf Tryd.f28 6) = attestorlaw11_columns.T6 := by kernel_rfl
theorem attestorlaw11_columns.bits6 : waitsOk attestorlaw11_columns.T6.2 attestorlaw11_columns.B6 = true := by kernel_rfl
set_option maxHeartbeats 8000000 in
set_option maxRecDepth 100000 in
theorem attestorlaw11_columns.calls (k : Nat) (A0 : Option Addr) (c0 : Nat) (l0 : List (List Int)) (a1 : Int) (a2 : Int) (r : List (List Int)) (w : World) (hr0 : Kd.C (Kd.slice 48 (Kd.int .u64)) w A0 l0.length l0) (hc0 : l0.length ≤ c0) (h : attestorlaw11_columns.f k l0 a1 a2 = some r) :
  Calls Tryd.prog 28 #[.slice A0 l0.length c0, .int .i64 a1, .int .i64 a2] w fun e w' => ∃ v0_ : Value, e = .returned (v0_) ∧ Kd.S (Kd.slice 48 (Kd.int .u64)) 35 w' w.heap.size (fun _ => True) v0_ r ∧ Below w.heap.size w w' := by
 have HR0 := ak hr0
 have HC0 := ak hc0
 clear hr0 hc0
 have HB := ak (Below.refl w.heap.size w)
 have H : (attestorlaw11_columns.l0 k l0 a1 a2 ([] : List (List Int)) 0) = some r := h
 clear h
 have H' := ak H
 clear H
 go_enter Tryd.func28, Tryd.ntmps28
 go_wp2
 go_loopg [7, 8] k (fun kq v7 v8 w' => ∃ (x7_1 : List (List Int)) (x8_1 : Int), v8 = .int .i64 x8_1 ∧ Aside0 (attestorlaw11_columns.l0 kq l0 a1 a2 x7_1 x8_1 = some r) ∧ Aside0 (kq ≤ k) ∧ Aside0 (Kd.S (Kd.slice 48 (Kd.int .u64)) 35 w' w.heap.size (fun _ => True) v7 x7_1) ∧ Aside0 (Below w.heap.size w w'))
 case atStart => exact ⟨(([] : List (List Int))), (0), gb_, H', ⟨Nat.le_refl _⟩, ⟨by first | exact Kd.S_nil _ _ _ _ _ | exact Kd.N_nil _ _ _ _ _ | exact Kd.V_nil _ _ _ _ _ | exact Kd.Q_nil _ _ _ _ _ | exact Kd.R_nil _ _ _ _ _⟩, ⟨bU_ HB.out⟩⟩
 case round =>
  clear H'
  (try clear c2); (try clear p2)
  obtain ⟨x7_1, x8_1, rfl, HA, HK1, HO_7, HB⟩ := hrel
  cases gk with
  | zero => exact absurd HA.out (by simp [attestorlaw11_columns.l0])
  | succ k1 =>
   have H := HA.out
   clear HA
   simp only [attestorlaw11_columns.l0] at H
   by_cases c4 : x8_1 < (l0.length : Int)
   ·rw [if_pos c4] at H
    have c4b0 := decide_eq_true c4
    clear c4
    by_cases c5 : x8_1 < a1
    ·rw [if_pos c5] at H
     have c5b0 := decide_eq_true c5
     clear c5
     obtain ⟨c6, H⟩ : (0 ≤ x8_1) ∧ _ := it_ H
     have c6b0 := decide_eq_true c6
     clear c6
     obtain ⟨ji7, hji7⟩ : ∃ j_ : Int, (mn ((rd_L3 l0 x8_1).length : Int) a2) = j_ := ⟨_, rfl⟩
     first | rw [hji7] at H | simp only [hji7] at H
     have hji7_ : (if a2 < ((rd_L3 l0 x8_1).length : Int) then a2 else ((rd_L3 l0 x8_1).length : Int)) = ji7 := hji7
     obtain ⟨c8, H⟩ : (0 ≤ (ji7)) ∧ _ := it_ H
     have c8b0 := eq_true c8
     have c8b1 := decide_eq_true c8
     clear c8
     obtain ⟨c9, H⟩ : ((ji7) ≤ ((rd_L3 l0 x8_1).length : Int)) ∧ _ := it_ H
     have c9b0 := eq_true c9
     have c9b1 := decide_eq_true c9
     clear c9
     obtain ⟨c10, H⟩ : (([] : List Int).length + ((rd_L3 l0 x8_1).take ((ji7) : Int).toNat).length < 17592186044416) ∧ _ := it_ H
     have LMc10 := ak c10
     clear c10
     obtain ⟨y1014, hy1014⟩ : ∃ y_ : List Int, y_ = (([] : List Int) ++ ((rd_L3 l0 x8_1).take ((ji7) : Int).toNat)) := ⟨_, rfl⟩
     first | rw [Option.bind_some, ← hy1014] at H | rw [← hy1014] at H
     have Ny1014 := ak hy1014
     clear hy1014
     obtain ⟨c11, H⟩ : (x7_1.length < 5864062014805) ∧ _ := it_ H
     have LMc11 := ak c11
     clear c11
     obtain ⟨y1017, hy1017⟩ : ∃ y_ : List (List Int), y_ = (x7_1 ++ [y1014]) := ⟨_, rfl⟩
     replace H : (attestorlaw11_columns.l0 k1 l0 a1 a2 y1017 (wrap64 (x8_1 + 1))) = some r := by first | (rw [hy1017]; with_reducible exact H) | (have H2_ := (Option.bind_some _ _).symm.trans H; rw [hy1017]; with_reducible exact H2_) | (have H2_ := (Option.bind_some _ _).symm.trans H; with_reducible exact H2_) | with_reducible exact H | (rw [hy1017]; exact H) | exact H
     have Ny1017 := ak hy1017
     clear hy1017
     have H' := ak H
     clear H
     try go_wp2
     refine nx2_ (Kd.S_drew HO_7.out) (below_drew1 HB.out) ?_
     clear HO_7 HB
     intro HO_7 HB
     have p1011 : 0 ≤ (x8_1 : Int) := od_
     have q1011 : x8_1 < (l0.length : Int) := od_
     obtain ⟨ad1011, A1011_0, c1011_0, e1011, hx1011_0, hl1011_0, hi1011_0⟩ := at_L3 HR0.out x8_1 p1011 q1011
     have hw1011_0 := hx1011_0
     cases e1011
     replace hx1011_0 := (HB.out.cell (World.block_lt_of_cell? w _ hx1011_0)).trans hx1011_0
     have HR1011_0 := ak hi1011_0
     have HC1011_0 := ak hl1011_0
     clear hi1011_0 hl1011_0
     replace p1011 := eq_true p1011
     replace q1011 := eq_true q1011
     have p1012 : 0 ≤ (x8_1 : Int) := od_
     have q1012 : x8_1 < (l0.length : Int) := od_
     obtain ⟨ad1012, A1012_0, c1012_0, e1012, hx1012_0, hl1012_0, hi1012_0⟩ := at_L3 HR0.out x8_1 p1012 q1012
     have hw1012_0 := hx1012_0
     obtain rfl : ad1011 = ad1012 := (by injection e1012)
     replace hx1012_0 := (HB.out.cell (World.block_lt_of_cell? w _ hx1012_0)).trans hx1012_0
     have HR1012_0 := ak hi1012_0
     have HC1012_0 := ak hl1012_0
     clear hi1012_0 hl1012_0
     replace p1012 := eq_true p1012
     replace q1012 := eq_true q1012
     have ea_ := Option.some.inj (hx1011_0.symm.trans hx1012_0)
     injection ea_ with ea_ en_ ec_
     subst ea_
     subst ec_
     clear en_
     obtain ⟨i013, hi013, _, hsz13, _⟩ := info_parts info48
     obtain ⟨hcut13, hA13, hC13⟩ := print_take_of (P := Tryd.prog) (Value.int .u64) 0 35 48 .i64 Tryd.underlying35 hi013 hsz13 A1011_0 c1011_0 (rd_L3 l0 x8_1) (ji7) od_ od_ HC1011_0.out
     have HR1013 := ak (C_of_reads (h1 := fun _ => rfl) (hA13 _ (Kd.reads_of_C HR1011_0.out)))
     have HC1013 := ak hC13
     clear hA13 hC13 hi013 hsz13
     refine start_ (n := 18) (S := fun w' => w'.cell? (ad1011.add (x8_1).toNat) = some (.slice A1011_0 (rd_L3 l0 x8_1).length c1011_0) ∧ w'.cell? (ad1011.add (x8_1).toNat) = some (.slice A1011_0 (rd_L3 l0 x8_1).length c1011_0)) (ds := []) (bv 18 0) (by kernel_rfl) rfl rfl ⟨((HB.out.cell (World.block_lt_of_cell? w _ hw1011_0)).trans hw1011_0), ((HB.out.cell (World.block_lt_of_cell? w _ hw1012_0)).trans hw1012_0)⟩ (fun hHeld => ?_); refine with_tabW attestorlaw11_columns.tab6 attestorlaw11_columns.bits6 (fun HT_ HW_ => ?_)
     generalize wr.drew = w12 at HO_7 HB HR1011_0 HR1012_0 HR1013 hx1011_0 hx1012_0 hHeld ⊢
     refine pq_ 0 21 18 1 HT_.out ?_
     refine pq_ 1 22 18 3 HT_.out ?_
     refine pq_ 2 23 18 7 HT_.out ?_
     refine pq_ 3 24 18 15 HT_.out ?_
     refine pq_ 4 25 18 31 HT_.out ?_
     refine pq_ 6 27 18 95 HT_.out ?_
     refine pq_ 7 28 18 223 HT_.out ?_
     refine pq_ 8 29 18 479 HT_.out ?_
     refine pq_ 11 32 18 2527 HT_.out ?_
     refine tq_ 5 26 18 2559 HT_.out HW_.out hHeld ?_
     refine tq_ 9 30 18 3071 HT_.out HW_.out hHeld ?_
     refine pq_ 10 31 18 4095 HT_.out ?_
     refine pq_ 12 33 18 8191 HT_.out ?_
     refine pq_ 13 34 18 16383 HT_.out ?_
     refine oq_ 14 35 18 32767 HT_.out fun K hK => ?_
     refine Kd.R_append_rows_step (Kd.int .u64) (w0 := w) w.heap.size (by rfl) (.tmp 22) (.tmp 34) 35 48 (.int .u64 0) 8 rfl Tryd.underlying35 info48 rfl (by decide) (by omega) (.slice none 0 0) ([] : List Int) ((rd_L3 l0 x8_1).take ((ji7) : Int).toNat) _ _ _ (fun _ => True) (fun _ => False) rfl rfl ?aO ?aR (fun _ _ h => h) (fun _ h => h.elim) ?aF ?aB ?aS ?aL ?_
     (case aR => first | (refine lenEq_ (show ((rd_L3 l0 x8_1).take ((ji7) : Int).toNat).length = (ji7).toNat from (by rw [List.length_take]; have h_ : ((ji7) : Int) ≤ ((rd_L3 l0 x8_1).length : Int) := od_; omega)) ?_; exact cU_ (C_below HR1013.out HB.out)) | (exact cU_ (C_below HR1013.out HB.out)))
     (case aB => exact (bU_ HB.out))
     (case aF => exact (fun _ _ => trivial))
     (case aO => exact ((Kd.R_nil _ _ _ _ (fun _ => True))))
     (case aS => exact (below_size (bU_ HB.out)))
     (case aL => have := LMc10.out; have hlx_ := (show ((rd_L3 l0 x8_1).take ((ji7) : Int).toNat).length = (ji7).toNat from (by rw [List.length_take]; have h_ : ((ji7) : Int) ≤ ((rd_L3 l0 x8_1).length : Int) := od_; omega)); omega)
     intro v1015 w14 ho hb hg hat
     rw [← Ny1014.out] at ho
     refine nx3_ (Kd.S_after (Kd.S_apart_nil (by (with_reducible repeat (first | apply Kd.S_alloc | apply Kd.S_drewN | apply Kd.S_drew)); exact HO_7.out)) hg hat) (hb) (ho) ?_
     clear HO_7 HB
     intro HO_7 HB HO1016
     clear ho hb hg hat
     obtain ⟨Ao16, co16, eo16⟩ := R_slice HO1016.out
     (first | subst eo16 | (injection eo16 with f1_ f2_ f3_; have f4_ := f1_.symm; have f5_ := f3_.symm; clear f1_ f2_ f3_; subst f4_; subst f5_))
     refine hK.out _ _ ⟨((HB.out.cell (World.block_lt_of_cell? w _ hw1011_0)).trans hw1011_0), ((HB.out.cell (World.block_lt_of_cell? w _ hw1012_0)).trans hw1012_0)⟩ (fun hHeld => ?_)
     clear hK K
     refine norm_ (a' := ?_) ?_ ?_
     rotate_left
     ·show Act.put _ (some 35) _ = _
      simp only [Act.put, s1_, s2_, s3_, i64_w, i32_w]
      rfl
     refine oq_ 15 36 18 65535 HT_.out fun K hK => ?_
     refine value_ (w1 := ?_) (v := ?_) (by rfl) rfl ?_ ?_
     rotate_left 2
     ·go_simp
      constructor
      ·rfl
      rfl
     refine hK.out _ _ ⟨(World.cell?_alloc_lt _ _ _ (World.block_lt_of_cell? _ _ (((HB.out.cell (World.block_lt_of_cell? w _ hw1011_0)).trans hw1011_0)))).trans (((HB.out.cell (World.block_lt_of_cell? w _ hw1011_0)).trans hw1011_0)), (World.cell?_alloc_lt _ _ _ (World.block_lt_of_cell? _ _ (((HB.out.cell (World.block_lt_of_cell? w _ hw1012_0)).trans hw1012_0)))).trans (((HB.out.cell (World.block_lt_of_cell? w _ hw1012_0)).trans hw1012_0))⟩ (fun hHeld => ?_)
     clear hK K
     refine norm_ (a' := ?_) ?_ ?_
     rotate_left
     ·show Act.put _ (some 36) _ = _
      simp only [Act.put, s1_, s2_, s3_, i64_w, i32_w]
      rfl
     refine oq_ 16 37 18 131071 HT_.out fun K hK => ?_
     refine Kd.S_append_step (Kd.slice 48 (Kd.int .u64)) (w0 := w) w.heap.size (by rfl) (.tmp 21) (.tmp 36) 42 35 (.slice none 0 0) 24 rfl Tryd.underlying42 info35 rfl (by decide) (by omega) u7 x7_1 y1014 [.slice Ao16 y1014.length co16] (fun _ => True) (fun k_ => some k_ = (.slice Ao16 y1014.length co16 : Value).ownBlock) rfl rfl ?aP (fun k_ hk_ => ((R_mono (ok' := fun k_ => ((fun _ => True)) k_ ∧ some k_ ≠ (u7 : Value).ownBlock) (Kd.R_apart' (HO1016.out) (Kd.S_typed HO_7.out) (by decide)) (fun k_ hk => ⟨trivial, hk.2⟩))).1 k_ hk_.symm) ?aF ?aO ?aB ?aS ?aL ?_
     (case aP => exact Kd.M_row (R_mono (R_tight rfl (R_mono (ok' := fun k_ => ((fun _ => True)) k_ ∧ some k_ ≠ (u7 : Value).ownBlock) (Kd.R_apart' (HO1016.out) (Kd.S_typed HO_7.out) (by decide)) (fun k_ hk => ⟨trivial, hk.2⟩))) (fun _ h_ => h_)))
     (case aB => exact (bU_ HB.out))
     (case aF => exact (fun _ _ => trivial))
     (case aO => exact (by (with_reducible repeat (first | apply Kd.S_alloc | apply Kd.S_drewN | apply Kd.S_drew)); exact Kd.S_mono HO_7.out (fun k_ hk => ⟨trivial, fun e_ => hk.2 e_⟩)))
     (case aS => exact (below_size (bU_ HB.out)))
     (case aL => have := LMc11.out; omega)
     intro v1018 w15 ho hb hg hat
     rw [← Ny1017.out] at ho
     refine nx2_ (hb) (ho) ?_
     clear HB HO_7 HO1016
     intro HB HO1019
     clear ho hb hg hat
     refine hK.out _ _ ⟨((HB.out.cell (World.block_lt_of_cell? w _ hw1011_0)).trans hw1011_0), ((HB.out.cell (World.block_lt_of_cell? w _ hw1012_0)).trans hw1012_0)⟩ (fun hHeld => ?_)
     clear hK K
     refine norm_ (a' := ?_) ?_ ?_
     rotate_left
     ·show Act.put _ (some 37) _ = _
      simp only [Act.put, s1_, s2_, s3_, i64_w, i32_w]
      rfl
     refine pq_ 17 7 18 262143 HT_.out ?_
     refine done_ (done_of HT_.out (by kernel_rfl)) ?_
     try go_wp2
     go_roundg k1
     case measure => have := HK1.out; omega
     case rel => exact ⟨(y1017), (wrap64 (x8_1 + 1)), gb_, H', ⟨by have := HK1.out; omega⟩, ⟨by (with_reducible repeat (first | apply Kd.S_alloc | apply Kd.S_drewN | apply Kd.S_drew)); exact HO1019.out⟩, ⟨bU_ HB.out⟩⟩
    rw [if_neg c5] at H
    have c5b0 := decide_eq_false c5
    clear c5
    obtain rfl := Option.some.inj H
    go_wp2
    go_ret
    exact ⟨_, eW_, by (with_reducible repeat (first | apply Kd.S_alloc | apply Kd.S_drewN | apply Kd.S_drew)); exact HO_7.out, bU_ HB.out⟩
   rw [if_neg c4] at H
   have c4b0 := decide_eq_false c4
   clear c4
   obtain rfl := Option.some.inj H
   go_wp2
   go_ret
   exact ⟨_, eW_, by (with_reducible repeat (first | apply Kd.S_alloc | apply Kd.S_drewN | apply Kd.S_drew)); exact HO_7.out, bU_ HB.out⟩

def attestorref01_Mul.f (a0 : Int) (a1 : Int) (a2 : Int) : Option (Int) := (attestorref01_Valid.f a0).bind fun t1020 => (if t1020 = true then ((attestorref01_P.f a0).bind fun t1021 => (if t1021 = 0 then (none) else (some (Int.tmod (IntKind.u64.wrap ((Int.tmod a1 t1021) * (Int.tmod a2 t1021))) t1021)))) else (some 0))
set_option maxHeartbeats 8000000 in
set_option maxRecDepth 100000 in
theorem attestorref01_Mul.calls (a0 : Int) (a1 : Int) (a2 : Int) (r : Int) (w : World) (h : attestorref01_Mul.f a0 a1 a2 = some r) :
  Calls Tryd.prog 74 #[.int .i64 a0, .int .u64 a1, .int .u64 a2] w fun e w' => e = .returned (.int .u64 r) ∧ Drawn0 w w' := by
 have H := h
 clear h
 unfold attestorref01_Mul.f at H
 revert H
 refine bd_ fun t1020 A4 H => ?_
 by_cases c5 : t1020 = true
 ·subst c5
  rw [if_pos rfl] at H
  revert H
  refine bd_ fun t1021 A6 H => ?_
  by_cases c7 : t1021 = 0
  ·rw [if_pos c7] at H
   exact absurd H (by simp)
  rw [if_neg c7] at H
  have c7b0 := beq_eq_false_iff_ne.mpr c7
  have c7b1 := bne_iff_ne.mpr c7
  obtain rfl := Option.some.inj H
  go_enter Tryd.func74, Tryd.ntmps74
  go_wp2_with (first | (go_at_call 51; (with_reducible refine (attestorref01_Valid.calls a0 true _ A4.out).mono ?_); rintro e w' ⟨rfl, ⟨nd, rfl⟩⟩; (try first | exact ⟨rfl, _, World.drewN_drewN _ _ _⟩ | exact ⟨rfl, _, dd_⟩)) | (go_at_call 54; (with_reducible refine (attestorref01_P.calls a0 t1021 _ A6.out).mono ?_); rintro e w' ⟨rfl, ⟨nd, rfl⟩⟩; (try first | exact ⟨rfl, _, World.drewN_drewN _ _ _⟩ | exact ⟨rfl, _, dd_⟩)))
  repeat (go_quiet (first | (go_at_call 51; (with_reducible refine (attestorref01_Valid.calls a0 true _ A4.out).mono ?_); rintro e w' ⟨rfl, ⟨nd, rfl⟩⟩; (try first | exact ⟨rfl, _, World.drewN_drewN _ _ _⟩ | exact ⟨rfl, _, dd_⟩)) | (go_at_call 54; (with_reducible refine (attestorref01_P.calls a0 t1021 _ A6.out).mono ?_); rintro e w' ⟨rfl, ⟨nd, rfl⟩⟩; (try first | exact ⟨rfl, _, World.drewN_drewN _ _ _⟩ | exact ⟨rfl, _, dd_⟩))); try go_wp2_with (first | (go_at_call 51; (with_reducible refine (attestorref01_Valid.calls a0 true _ A4.out).mono ?_); rintro e w' ⟨rfl, ⟨nd, rfl⟩⟩; (try first | exact ⟨rfl, _, World.drewN_drewN _ _ _⟩ | exact ⟨rfl, _, dd_⟩)) | (go_at_call 54; (with_reducible refine (attestorref01_P.calls a0 t1021 _ A6.out).mono ?_); rintro e w' ⟨rfl, ⟨nd, rfl⟩⟩; (try first | exact ⟨rfl, _, World.drewN_drewN _ _ _⟩ | exact ⟨rfl, _, dd_⟩))))
  go_ret
  exact ⟨by first | rfl | (simp; done) | (simp [*]; done), by repeat (first | exact Drawn0.refl _ | apply Drawn0.step)⟩
 replace c5 := Bool.eq_false_iff.mpr c5
 subst c5
 rw [if_neg (show ¬ (false = true) by decide)] at H
 obtain rfl := Option.some.inj H
 go_enter Tryd.func74, Tryd.ntmps74
 go_wp2_with (first | (go_at_call 51; (with_reducible refine (attestorref01_Valid.calls a0 false _ A4.out).mono ?_); rintro e w' ⟨rfl, ⟨nd, rfl⟩⟩; (try first | exact ⟨rfl, _, World.drewN_drewN _ _ _⟩ | exact ⟨rfl, _, dd_⟩)))
 repeat (go_quiet (first | (go_at_call 51; (with_reducible refine (attestorref01_Valid.calls a0 false _ A4.out).mono ?_); rintro e w' ⟨rfl, ⟨nd, rfl⟩⟩; (try first | exact ⟨rfl, _, World.drewN_drewN _ _ _⟩ | exact ⟨rfl, _, dd_⟩))); try go_wp2_with (first | (go_at_call 51; (with_reducible refine (attestorref01_Valid.calls a0 false _ A4.out).mono ?_); rintro e w' ⟨rfl, ⟨nd, rfl⟩⟩; (try first | exact ⟨rfl, _, World.drewN_drewN _ _ _⟩ | exact ⟨rfl, _, dd_⟩))))
 go_ret
 exact ⟨by first | rfl | (simp; done) | (simp [*]; done), by repeat (first | exact Drawn0.refl _ | apply Drawn0.step)⟩

def attestorref01_Add.f (a0 : Int) (a1 : Int) (a2 : Int) : Option (Int) := (attestorref01_Valid.f a0).bind fun t1022 => (if t1022 = true then ((attestorref01_P.f a0).bind fun t1023 => (if t1023 = 0 then (none) else (some (Int.tmod (IntKind.u64.wrap ((Int.tmod a1 t1023) + (Int.tmod a2 t1023))) t1023)))) else (some 0))
set_option maxHeartbeats 8000000 in
set_option maxRecDepth 100000 in
theorem attestorref01_Add.calls (a0 : Int) (a1 : Int) (a2 : Int) (r : Int) (w : World) (h : attestorref01_Add.f a0 a1 a2 = some r) :
  Calls Tryd.prog 76 #[.int .i64 a0, .int .u64 a1, .int .u64 a2] w fun e w' => e = .returned (.int .u64 r) ∧ Drawn0 w w' := by
 have H := h
 clear h
 unfold attestorref01_Add.f at H
 revert H
 refine bd_ fun t1022 A4 H => ?_
 by_cases c5 : t1022 = true
 ·subst c5
  rw [if_pos rfl] at H
  revert H
  refine bd_ fun t1023 A6 H => ?_
  by_cases c7 : t1023 = 0
  ·rw [if_pos c7] at H
   exact absurd H (by simp)
  rw [if_neg c7] at H
  have c7b0 := beq_eq_false_iff_ne.mpr c7
  have c7b1 := bne_iff_ne.mpr c7
  obtain rfl := Option.some.inj H
  go_enter Tryd.func76, Tryd.ntmps76
  go_wp2_with (first | (go_at_call 51; (with_reducible refine (attestorref01_Valid.calls a0 true _ A4.out).mono ?_); rintro e w' ⟨rfl, ⟨nd, rfl⟩⟩; (try first | exact ⟨rfl, _, World.drewN_drewN _ _ _⟩ | exact ⟨rfl, _, dd_⟩)) | (go_at_call 54; (with_reducible refine (attestorref01_P.calls a0 t1023 _ A6.out).mono ?_); rintro e w' ⟨rfl, ⟨nd, rfl⟩⟩; (try first | exact ⟨rfl, _, World.drewN_drewN _ _ _⟩ | exact ⟨rfl, _, dd_⟩)))
  repeat (go_quiet (first | (go_at_call 51; (with_reducible refine (attestorref01_Valid.calls a0 true _ A4.out).mono ?_); rintro e w' ⟨rfl, ⟨nd, rfl⟩⟩; (try first | exact ⟨rfl, _, World.drewN_drewN _ _ _⟩ | exact ⟨rfl, _, dd_⟩)) | (go_at_call 54; (with_reducible refine (attestorref01_P.calls a0 t1023 _ A6.out).mono ?_); rintro e w' ⟨rfl, ⟨nd, rfl⟩⟩; (try first | exact ⟨rfl, _, World.drewN_drewN _ _ _⟩ | exact ⟨rfl, _, dd_⟩))); try go_wp2_with (first | (go_at_call 51; (with_reducible refine (attestorref01_Valid.calls a0 true _ A4.out).mono ?_); rintro e w' ⟨rfl, ⟨nd, rfl⟩⟩; (try first | exact ⟨rfl, _, World.drewN_drewN _ _ _⟩ | exact ⟨rfl, _, dd_⟩)) | (go_at_call 54; (with_reducible refine (attestorref01_P.calls a0 t1023 _ A6.out).mono ?_); rintro e w' ⟨rfl, ⟨nd, rfl⟩⟩; (try first | exact ⟨rfl, _, World.drewN_drewN _ _ _⟩ | exact ⟨rfl, _, dd_⟩))))
  go_ret
  exact ⟨by first | rfl | (simp; done) | (simp [*]; done), by repeat (first | exact Drawn0.refl _ | apply Drawn0.step)⟩
 replace c5 := Bool.eq_false_iff.mpr c5
 subst c5
 rw [if_neg (show ¬ (false = true) by decide)] at H
 obtain rfl := Option.some.inj H
 go_enter Tryd.func76, Tryd.ntmps76
 go_wp2_with (first | (go_at_call 51; (with_reducible refine (attestorref01_Valid.calls a0 false _ A4.out).mono ?_); rintro e w' ⟨rfl, ⟨nd, rfl⟩⟩; (try first | exact ⟨rfl, _, World.drewN_drewN _ _ _⟩ | exact ⟨rfl, _, dd_⟩)))
 repeat (go_quiet (first | (go_at_call 51; (with_reducible refine (attestorref01_Valid.calls a0 false _ A4.out).mono ?_); rintro e w' ⟨rfl, ⟨nd, rfl⟩⟩; (try first | exact ⟨rfl, _, World.drewN_drewN _ _ _⟩ | exact ⟨rfl, _, dd_⟩))); try go_wp2_with (first | (go_at_call 51; (with_reducible refine (attestorref01_Valid.calls a0 false _ A4.out).mono ?_); rintro e w' ⟨rfl, ⟨nd, rfl⟩⟩; (try first | exact ⟨rfl, _, World.drewN_drewN _ _ _⟩ | exact ⟨rfl, _, dd_⟩))))
 go_ret
 exact ⟨by first | rfl | (simp; done) | (simp [*]; done), by repeat (first | exact Drawn0.refl _ | apply Drawn0.step)⟩

def attestorref03_Eval.l0 : Nat → Int → List Int → Int → Int → Int → Int → Option (Int)
 | 0, _, _, _, _, _, _ => none
 | k + 1, x0, x1, x2, x7, x8, x9 => if x9 < (x1.length : Int) then (if 0 ≤ x9 then ((attestorref01_Mul.f x0 (rd x1 x9) x8).bind fun t1025 => ((attestorref01_Add.f x0 x7 t1025).bind fun t1026 => ((attestorref01_Mul.f x0 x8 x2).bind fun t1027 => (attestorref03_Eval.l0 k x0 x1 x2 t1026 t1027 (wrap64 (x9 + 1)))))) else (none)) else (some x7)
def attestorref03_Eval.f (k : Nat) (a0 : Int) (l1 : List Int) (a2 : Int) : Option (Int) := attestorref03_Eval.l0 k a0 l1 a2 0 1 0
set_option maxHeartbeats 8000000 in
set_option maxRecDepth 100000 in
theorem attestorref03_Eval.calls (k : Nat) (a0 : Int) (A1 : Option Addr) (c1 : Nat) (l1 : List Int) (a2 : Int) (r : Int) (w : World) (hr1 : Kd.C (Kd.int .u64) w A1 l1.length l1) (hc1 : l1.length ≤ c1) (h : attestorref03_Eval.f k a0 l1 a2 = some r) :
  Calls Tryd.prog 72 #[.int .i64 a0, .slice A1 l1.length c1, .int .u64 a2] w fun e w' => e = .returned (.int .u64 r) ∧ Drawn0 w w' := by
 have HR1 := ak hr1
 have HC1 := ak hc1
 clear hr1 hc1
 have H : (attestorref03_Eval.l0 k a0 l1 a2 0 1 0) = some r := h
 clear h
 have H' := ak H
 clear H
 go_enter Tryd.func72, Tryd.ntmps72
 go_wp2
 go_loopg [7, 8, 9] k (fun kq v7 v8 v9 w' => ∃ (x7_1 : Int) (x8_1 : Int) (x9_1 : Int), v7 = .int .u64 x7_1 ∧ v8 = .int .u64 x8_1 ∧ v9 = .int .i64 x9_1 ∧ Aside0 (attestorref03_Eval.l0 kq a0 l1 a2 x7_1 x8_1 x9_1 = some r) ∧ Aside0 (kq ≤ k) ∧ Drawn0 w w')
 case atStart => exact ⟨(0), (1), (0), gb_, gb_, gb_, H', ⟨Nat.le_refl _⟩, by repeat (first | exact Drawn0.refl _ | apply Drawn0.step)⟩
 case round =>
  clear H'
  (try clear c1); (try clear p2)
  obtain ⟨x7_1, x8_1, x9_1, rfl, rfl, rfl, HA, HK1, ⟨m1, rfl⟩⟩ := hrel
  cases gk with
  | zero => exact absurd HA.out (by simp [attestorref03_Eval.l0])
  | succ k1 =>
   have H := HA.out
   clear HA
   simp only [attestorref03_Eval.l0] at H
   by_cases c4 : x9_1 < (l1.length : Int)
   ·rw [if_pos c4] at H
    have c4b0 := decide_eq_true c4
    clear c4
    obtain ⟨c5, H⟩ : (0 ≤ x9_1) ∧ _ := it_ H
    have c5b0 := decide_eq_true c5
    clear c5
    revert H
    refine bd_ fun t1025 A6 H => ?_
    revert H
    refine bd_ fun t1026 A7 H => ?_
    revert H
    refine bd_ fun t1027 A8 H => ?_
    have H' := ak H
    clear H
    have p1024 : 0 ≤ (x9_1 : Int) := od_
    have q1024 : x9_1 < (l1.length : Int) := od_
    obtain ⟨ad1024, e1024, hx1024_0⟩ := Kd.at_int HR1.out x9_1 p1024 q1024
    cases e1024
    replace p1024 := eq_true p1024
    replace q1024 := eq_true q1024
    go_wp2_with (first | ((with_reducible refine gate_callee (f := 74) rfl ?_); refine gl_ (some 24) Tryd.func74 #[.int .i64 a0, .int .u64 (rd l1 x9_1), .int .u64 x8_1] ?_; (with_reducible refine (attestorref01_Mul.calls a0 (rd l1 x9_1) x8_1 t1025 _ A6.out).mono ?_); rintro e w' ⟨rfl, ⟨nd, rfl⟩⟩; refine ⟨_, rfl, ?_⟩) | ((with_reducible refine gate_callee (f := 76) rfl ?_); refine gl_ (some 25) Tryd.func76 #[.int .i64 a0, .int .u64 x7_1, .int .u64 t1025] ?_; (with_reducible refine (attestorref01_Add.calls a0 x7_1 t1025 t1026 _ A7.out).mono ?_); rintro e w' ⟨rfl, ⟨nd, rfl⟩⟩; refine ⟨_, rfl, ?_⟩) | ((with_reducible refine gate_callee (f := 74) rfl ?_); refine gl_ (some 29) Tryd.func74 #[.int .i64 a0, .int .u64 x8_1, .int .u64 a2] ?_; (with_reducible refine (attestorref01_Mul.calls a0 x8_1 a2 t1027 _ A8.out).mono ?_); rintro e w' ⟨rfl, ⟨nd, rfl⟩⟩; refine ⟨_, rfl, ?_⟩))
    go_roundg k1
    case measure => have := HK1.out; omega
    case rel => exact ⟨(t1026), (t1027), (wrap64 (x9_1 + 1)), gb_, gb_, gb_, H', ⟨by have := HK1.out; omega⟩, by repeat (first | exact Drawn0.refl _ | apply Drawn0.step)⟩
   rw [if_neg c4] at H
   have c4b0 := decide_eq_false c4
   clear c4
   obtain rfl := Option.some.inj H
   go_wp2
   go_ret
   exact ⟨by first | rfl | (simp; done) | (simp [*]; done), by repeat (first | exact Drawn0.refl _ | apply Drawn0.step)⟩

def attestorref11_Roots.l0 : Nat → Int → List Int → Int → Int → Option (Int × Int)
 | 0, _, _, _, _ => none
 | k + 1, x0, x1, x6, x7 => (attestorref01_P.f x0).bind fun t1029 => (if x7 < t1029 then ((attestorref03_Eval.f k x0 x1 x7).bind fun t1030 => (if t1030 = 0 then (attestorref11_Roots.l0 k x0 x1 (wrap64 (x6 + 1)) (IntKind.u64.wrap (x7 + 1))) else (attestorref11_Roots.l0 k x0 x1 x6 (IntKind.u64.wrap (x7 + 1))))) else (some (x6, 0)))
def attestorref11_Roots.f (k : Nat) (a0 : Int) (l1 : List Int) : Option (Int × Int) := (attestorref01_Valid.f a0).bind fun t1028 => (if t1028 = true then (if a0 > 1 then (some (0, 2)) else (attestorref11_Roots.l0 k a0 l1 0 0)) else (some (0, 1)))
set_option maxHeartbeats 8000000 in
set_option maxRecDepth 100000 in
theorem attestorref11_Roots.calls (k : Nat) (a0 : Int) (A1 : Option Addr) (c1 : Nat) (l1 : List Int) (r1 : Int) (r2 : Int) (w : World) (hr1 : Kd.C (Kd.int .u64) w A1 l1.length l1) (hc1 : l1.length ≤ c1) (h : attestorref11_Roots.f k a0 l1 = some (r1, r2)) :
  Calls Tryd.prog 29 #[.int .i64 a0, .slice A1 l1.length c1] w fun e w' => e = .returned (.tuple #[.int .i64 r1, .int .i64 r2]) ∧ Drawn0 w w' := by
 have HR1 := ak hr1
 have HC1 := ak hc1
 clear hr1 hc1
 have H := h
 clear h
 unfold attestorref11_Roots.f at H
 revert H
 refine bd_ fun t1028 A3 H => ?_
 by_cases c4 : t1028 = true
 ·subst c4
  rw [if_pos rfl] at H
  by_cases c5 : a0 > 1
  ·rw [if_pos c5] at H
   have c5b0 : decide (1 < a0) = true := decide_eq_true c5
   clear c5
   simp only [Option.some.injEq, Prod.mk.injEq] at H
   obtain ⟨rfl, rfl⟩ := H
   go_enter Tryd.func29, Tryd.ntmps29
   go_wp2_with (first | ((with_reducible refine gate_callee (f := 51) rfl ?_); refine gl_ (some 9) Tryd.func51 #[.int .i64 a0] ?_; (with_reducible refine (attestorref01_Valid.calls a0 true _ A3.out).mono ?_); rintro e w' ⟨rfl, ⟨nd, rfl⟩⟩; refine ⟨_, rfl, ?_⟩))
   go_ret2
   exact ⟨by first | rfl | (simp; done) | (simp [*]; done), by repeat (first | exact Drawn0.refl _ | apply Drawn0.step)⟩
  rw [if_neg c5] at H
  have c5b0 : decide (1 < a0) = false := decide_eq_false c5
  clear c5
  have H' := ak H
  clear H
  go_enter Tryd.func29, Tryd.ntmps29
  go_wp2_with (first | ((with_reducible refine gate_callee (f := 51) rfl ?_); refine gl_ (some 9) Tryd.func51 #[.int .i64 a0] ?_; (with_reducible refine (attestorref01_Valid.calls a0 true _ A3.out).mono ?_); rintro e w' ⟨rfl, ⟨nd, rfl⟩⟩; refine ⟨_, rfl, ?_⟩))
  go_loopg [6, 7] k (fun kq v6 v7 w' => ∃ (x6_1 : Int) (x7_1 : Int), v6 = .int .i64 x6_1 ∧ v7 = .int .u64 x7_1 ∧ Aside0 (attestorref11_Roots.l0 kq a0 l1 x6_1 x7_1 = some (r1, r2)) ∧ Aside0 (kq ≤ k) ∧ Drawn0 w w')
  case atStart => exact ⟨(0), (0), gb_, gb_, H', ⟨Nat.le_refl _⟩, by repeat (first | exact Drawn0.refl _ | apply Drawn0.step)⟩
  case round =>
   clear H'
   (try clear c1); (try clear c2); (try clear p2); (try clear c4); (try clear c5); (try clear c5b0)
   obtain ⟨x6_1, x7_1, rfl, rfl, HA, HK1, ⟨m1, rfl⟩⟩ := hrel
   cases gk with
   | zero => exact absurd HA.out (by simp [attestorref11_Roots.l0])
   | succ k1 =>
    have H := HA.out
    clear HA
    simp only [attestorref11_Roots.l0] at H
    revert H
    refine bd_ fun t1029 A6 H => ?_
    by_cases c7 : x7_1 < t1029
    ·rw [if_pos c7] at H
     have c7b0 := decide_eq_true c7
     clear c7
     revert H
     refine bd_ fun t1030 A8 H => ?_
     by_cases c9 : t1030 = 0
     ·rw [if_pos c9] at H
      have c9b0 := beq_iff_eq.mpr c9
      have c9b1 := bne_eq_false_iff_eq.mpr c9
      clear c9
      have H' := ak H
      clear H
      go_wp2_with (first | ((with_reducible refine gate_callee (f := 54) rfl ?_); refine gl_ (some 15) Tryd.func54 #[.int .i64 a0] ?_; (with_reducible refine (attestorref01_P.calls a0 t1029 _ A6.out).mono ?_); rintro e w' ⟨rfl, ⟨nd, rfl⟩⟩; refine ⟨_, rfl, ?_⟩) | ((with_reducible refine gate_callee (f := 72) rfl ?_); refine gl_ (some 22) Tryd.func72 #[.int .i64 a0, .slice A1 l1.length c1, .int .u64 x7_1] ?_; (with_reducible refine (attestorref03_Eval.calls k1 a0 _ _ l1 x7_1 t1030 _ ?side1 ?side2 A8.out).mono ?_); (case side1 => exact cU_ HR1.out); (case side2 => exact HC1.out); rintro e w' ⟨rfl, ⟨nd, rfl⟩⟩; refine ⟨_, rfl, ?_⟩))
      go_roundg k1
      case measure => have := HK1.out; omega
      case rel => exact ⟨(wrap64 (x6_1 + 1)), (IntKind.u64.wrap (x7_1 + 1)), gb_, gb_, H', ⟨by have := HK1.out; omega⟩, by repeat (first | exact Drawn0.refl _ | apply Drawn0.step)⟩
     rw [if_neg c9] at H
     have c9b0 := beq_eq_false_iff_ne.mpr c9
     have c9b1 := bne_iff_ne.mpr c9
     have H' := ak H
     clear H
     go_wp2_with (first | ((with_reducible refine gate_callee (f := 54) rfl ?_); refine gl_ (some 15) Tryd.func54 #[.int .i64 a0] ?_; (with_reducible refine (attestorref01_P.calls a0 t1029 _ A6.out).mono ?_); rintro e w' ⟨rfl, ⟨nd, rfl⟩⟩; refine ⟨_, rfl, ?_⟩) | ((with_reducible refine gate_callee (f := 72) rfl ?_); refine gl_ (some 22) Tryd.func72 #[.int .i64 a0, .slice A1 l1.length c1, .int .u64 x7_1] ?_; (with_reducible refine (attestorref03_Eval.calls k1 a0 _ _ l1 x7_1 t1030 _ ?side1 ?side2 A8.out).mono ?_); (case side1 => exact cU_ HR1.out); (case side2 => exact HC1.out); rintro e w' ⟨rfl, ⟨nd, rfl⟩⟩; refine ⟨_, rfl, ?_⟩))
     go_roundg k1
     case measure => have := HK1.out; omega
     case rel => exact ⟨(x6_1), (IntKind.u64.wrap (x7_1 + 1)), gb_, gb_, H', ⟨by have := HK1.out; omega⟩, by repeat (first | exact Drawn0.refl _ | apply Drawn0.step)⟩
    rw [if_neg c7] at H
    have c7b0 := decide_eq_false c7
    clear c7
    simp only [Option.some.injEq, Prod.mk.injEq] at H
    obtain ⟨rfl, rfl⟩ := H
    go_wp2_with (first | ((with_reducible refine gate_callee (f := 54) rfl ?_); refine gl_ (some 15) Tryd.func54 #[.int .i64 a0] ?_; (with_reducible refine (attestorref01_P.calls a0 t1029 _ A6.out).mono ?_); rintro e w' ⟨rfl, ⟨nd, rfl⟩⟩; refine ⟨_, rfl, ?_⟩))
    go_ret2
    exact ⟨by first | rfl | (simp; done) | (simp [*]; done), by repeat (first | exact Drawn0.refl _ | apply Drawn0.step)⟩
 replace c4 := Bool.eq_false_iff.mpr c4
 subst c4
 rw [if_neg (show ¬ (false = true) by decide)] at H
 simp only [Option.some.injEq, Prod.mk.injEq] at H
 obtain ⟨rfl, rfl⟩ := H
 go_enter Tryd.func29, Tryd.ntmps29
 go_wp2_with (first | ((with_reducible refine gate_callee (f := 51) rfl ?_); refine gl_ (some 9) Tryd.func51 #[.int .i64 a0] ?_; (with_reducible refine (attestorref01_Valid.calls a0 false _ A3.out).mono ?_); rintro e w' ⟨rfl, ⟨nd, rfl⟩⟩; refine ⟨_, rfl, ?_⟩))
 go_ret2
 exact ⟨by first | rfl | (simp; done) | (simp [*]; done), by repeat (first | exact Drawn0.refl _ | apply Drawn0.step)⟩

def attestorref11_tuples.l0 : Nat → Int → List (List Int) → List (List Int) → List (List Int) → Int → Option (Int)
 | 0, _, _, _, _, _ => none
 | k + 1, x0, x1, x2, x7, x8 => if x8 < (x7.length : Int) then (if 0 ≤ x8 then (if ((rd_L3 x7 x8).length : Int) = 0 then (some 1) else (if 0 < (x7.length : Int) then (if ((rd_L3 x7 x8).length : Int) = ((rd_L3 x7 0).length : Int) then (attestorref11_tuples.l0 k x0 x1 x2 x7 (wrap64 (x8 + 1))) else (some 1)) else (none))) else (none)) else (if x0 > 1 then (some 2) else (if (x1.length : Int) > 32 then (some 3) else (if (x2.length : Int) > 32 then (some 3) else (if (x7.length : Int) > 0 then (if 0 < (x7.length : Int) then (if ((rd_L3 x7 0).length : Int) > 8 then (some 3) else (some 0)) else (none)) else (some 0)))))
def attestorref11_tuples.f (k : Nat) (a0 : Int) (l1 : List (List Int)) (l2 : List (List Int)) : Option (Int) := (attestorref01_Valid.f a0).bind fun t1031 => (if t1031 = true then (if ([] : List (List Int)).length + l1.length < 5864062014805 then ((some (([] : List (List Int)) ++ l1 : List (List Int))).bind fun y1032 => (if y1032.length + l2.length < 5864062014805 then (attestorref11_tuples.l0 k a0 l1 l2 (y1032 ++ l2) 0) else (none))) else (none)) else (some 1))
set_option maxHeartbeats 8000000 in
set_option maxRecDepth 100000 in
theorem attestorref11_tuples.calls (k : Nat) (a0 : Int) (P1_ : Nat → Prop) (A1 : Option Addr) (c1 : Nat) (l1 : List (List Int)) (P2_ : Nat → Prop) (A2 : Option Addr) (c2 : Nat) (l2 : List (List Int)) (r : Int) (w : World) (hs1 : Kd.V (Kd.slice 48 (Kd.int .u64)) 35 w w.heap.size (fun k_ => P1_ k_) (.slice A1 l1.length c1) l1) (hs2 : Kd.V (Kd.slice 48 (Kd.int .u64)) 35 w w.heap.size (fun k_ => P2_ k_) (.slice A2 l2.length c2) l2) (h : attestorref11_tuples.f k a0 l1 l2 = some r) :
  Calls Tryd.prog 73 #[.int .i64 a0, .slice A1 l1.length c1, .slice A2 l2.length c2] w fun e w' => e = .returned (.int .i64 r) ∧ Below w.heap.size w w' := by
 have HO1 := ak (show Kd.V (Kd.slice 48 (Kd.int .u64)) 35 w w.heap.size (fun k_ => ((P1_ k_ ∨ P2_ k_) ∨ w.heap.size ≤ k_)) (.slice A1 l1.length c1) l1 from V_mono hs1 (fun k_ hk => .inl (.inl hk)))
 have HO2 := ak (show Kd.V (Kd.slice 48 (Kd.int .u64)) 35 w w.heap.size (fun k_ => ((P1_ k_ ∨ P2_ k_) ∨ w.heap.size ≤ k_)) (.slice A2 l2.length c2) l2 from V_mono hs2 (fun k_ hk => .inl (.inr hk)))
 have HB := ak (Below.refl w.heap.size w)
 have H := h
 clear h
 unfold attestorref11_tuples.f at H
 revert H
 refine bd_ fun t1031 A4 H => ?_
 by_cases c5 : t1031 = true
 ·subst c5
  rw [if_pos rfl] at H
  obtain ⟨c6, H⟩ : (([] : List (List Int)).length + l1.length < 5864062014805) ∧ _ := it_ H
  have LMc6 := ak c6
  clear c6
  obtain ⟨y1032, hy1032⟩ : ∃ y_ : List (List Int), y_ = (([] : List (List Int)) ++ l1) := ⟨_, rfl⟩
  replace H : (if y1032.length + l2.length < 5864062014805 then (attestorref11_tuples.l0 k a0 l1 l2 (y1032 ++ l2) 0) else (none)) = some r := by first | (rw [hy1032]; with_reducible exact H) | (have H2_ := (Option.bind_some _ _).symm.trans H; rw [hy1032]; with_reducible exact H2_) | (have H2_ := (Option.bind_some _ _).symm.trans H; with_reducible exact H2_) | with_reducible exact H | (rw [hy1032]; exact H) | exact H
  have Ny1032 := ak hy1032
  clear hy1032
  obtain ⟨c7, H⟩ : (y1032.length + l2.length < 5864062014805) ∧ _ := it_ H
  have LMc7 := ak c7
  clear c7
  obtain ⟨y1035, hy1035⟩ : ∃ y_ : List (List Int), y_ = (y1032 ++ l2) := ⟨_, rfl⟩
  replace H : (attestorref11_tuples.l0 k a0 l1 l2 y1035 0) = some r := by first | (rw [hy1035]; with_reducible exact H) | (have H2_ := (Option.bind_some _ _).symm.trans H; rw [hy1035]; with_reducible exact H2_) | (have H2_ := (Option.bind_some _ _).symm.trans H; with_reducible exact H2_) | with_reducible exact H | (rw [hy1035]; exact H) | exact H
  have Ny1035 := ak hy1035
  clear hy1035
  have H' := ak H
  clear H
  go_enter Tryd.func73, Tryd.ntmps73
  go_wp2_with (first | (go_at_call 51; (with_reducible refine (attestorref01_Valid.calls a0 true _ A4.out).mono ?_); rintro e w' ⟨rfl, ⟨nd, rfl⟩⟩; (try first | exact ⟨rfl, _, World.drewN_drewN _ _ _⟩ | exact ⟨rfl, _, dd_⟩)) | ((with_reducible refine gate_builtin (b := .append) (xs := #[.tmp 12, .tmp 13]) rfl ?_); (try (refine gate_guard (by rfl) ?_; dsimp only)); at_builtin; refine Kd.N_append_rows (Kd.slice 48 (Kd.int .u64)) (w0 := w) w.heap.size rfl (.tmp 12) (.tmp 13) 42 35 (.slice none 0 0) 24 rfl Tryd.underlying42 info35 rfl (by decide) (by omega) (.slice none 0 0) ([] : List (List Int)) l1 _ _ _ (fun k_ => ((P1_ k_ ∨ P2_ k_) ∨ w.heap.size ≤ k_)) (fun k_ => ((fun k_ => ((P1_ k_ ∨ P2_ k_) ∨ w.heap.size ≤ k_))) k_ ∧ some k_ ≠ (.slice none 0 0 : Value).ownBlock) rfl rfl ?aO ?aR (fun _ hk => hk) ?aF ?aB ?aS ?aL ?_; (case aR => exact (by skip; exact Kd.V_F (e := 35) (base := w.heap.size) (V_mono (ok' := (fun k_ => ((fun k_ => ((P1_ k_ ∨ P2_ k_) ∨ w.heap.size ≤ k_))) k_ ∧ some k_ ≠ (.slice none 0 0 : Value).ownBlock)) (HO1.out) (fun k_ hk => ⟨hk, (by simp [Value.ownBlock])⟩)))); (case aB => exact (bU_ HB.out)); (case aF => exact (fun k_ hk => (.inr (Nat.le_trans (below_size (bU_ HB.out)) hk)))); (case aO => exact ((Kd.N_nil _ _ _ _ (fun k_ => ((P1_ k_ ∨ P2_ k_) ∨ w.heap.size ≤ k_))))); (case aS => exact (below_size (bU_ HB.out))); (case aL => have := LMc6.out; omega); intro v1033 w8 ho hb hg hat; rw [← Ny1032.out] at ho; refine nx4_ (Kd.V_afterv (Kd.V_apart_nil (vU_ HO1.out)) hg hat) (Kd.V_afterv (Kd.V_apart_nil (vU_ HO2.out)) hg hat) (hb) (ho) ?_; clear HO1 HO2 HB; intro HO1 HO2 HB HO1034; clear ho hb hg hat) | ((with_reducible refine gate_builtin (b := .append) (xs := #[.tmp 15, .tmp 16]) rfl ?_); (try (refine gate_guard (by rfl) ?_; dsimp only)); at_builtin; refine Kd.N_append_rows (Kd.slice 48 (Kd.int .u64)) (w0 := w) w.heap.size rfl (.tmp 15) (.tmp 16) 42 35 (.slice none 0 0) 24 rfl Tryd.underlying42 info35 rfl (by decide) (by omega) v1033 y1032 l2 _ _ _ (fun k_ => ((P1_ k_ ∨ P2_ k_) ∨ w.heap.size ≤ k_)) (fun k_ => ((fun k_ => ((P1_ k_ ∨ P2_ k_) ∨ w.heap.size ≤ k_))) k_ ∧ some k_ ≠ (v1033 : Value).ownBlock) rfl rfl ?aO ?aR (fun _ hk => hk) ?aF ?aB ?aS ?aL ?_; (case aR => exact (by skip; exact Kd.V_F (e := 35) (base := w.heap.size) (V_mono (ok' := (fun k_ => ((fun k_ => ((P1_ k_ ∨ P2_ k_) ∨ w.heap.size ≤ k_))) k_ ∧ some k_ ≠ (v1033 : Value).ownBlock)) (HO2.out) (fun k_ hk => ⟨hk.1, hk.2⟩)))); (case aB => exact (bU_ HB.out)); (case aF => exact (fun k_ hk => (.inr (Nat.le_trans (below_size (bU_ HB.out)) hk)))); (case aO => exact (by (with_reducible repeat (first | apply Kd.N_alloc | apply Kd.N_drewN | apply Kd.N_drew)); exact HO1034.out)); (case aS => exact (below_size (bU_ HB.out))); (case aL => have := LMc7.out; omega); intro v1036 w9 ho hb hg hat; rw [← Ny1035.out] at ho; refine nx4_ (Kd.V_afterv (ok := (fun k_ => ((P1_ k_ ∨ P2_ k_) ∨ w.heap.size ≤ k_))) (vU_ HO1.out) hg hat) (Kd.V_afterv (ok := (fun k_ => ((P1_ k_ ∨ P2_ k_) ∨ w.heap.size ≤ k_))) (vU_ HO2.out) hg hat) (hb) (ho) ?_; clear HO1 HO2 HB HO1034; intro HO1 HO2 HB HO1037; clear ho hb hg hat))
  repeat (go_quiet (first | (go_at_call 51; (with_reducible refine (attestorref01_Valid.calls a0 true _ A4.out).mono ?_); rintro e w' ⟨rfl, ⟨nd, rfl⟩⟩; (try first | exact ⟨rfl, _, World.drewN_drewN _ _ _⟩ | exact ⟨rfl, _, dd_⟩)) | ((with_reducible refine gate_builtin (b := .append) (xs := #[.tmp 12, .tmp 13]) rfl ?_); (try (refine gate_guard (by rfl) ?_; dsimp only)); at_builtin; refine Kd.N_append_rows (Kd.slice 48 (Kd.int .u64)) (w0 := w) w.heap.size rfl (.tmp 12) (.tmp 13) 42 35 (.slice none 0 0) 24 rfl Tryd.underlying42 info35 rfl (by decide) (by omega) (.slice none 0 0) ([] : List (List Int)) l1 _ _ _ (fun k_ => ((P1_ k_ ∨ P2_ k_) ∨ w.heap.size ≤ k_)) (fun k_ => ((fun k_ => ((P1_ k_ ∨ P2_ k_) ∨ w.heap.size ≤ k_))) k_ ∧ some k_ ≠ (.slice none 0 0 : Value).ownBlock) rfl rfl ?aO ?aR (fun _ hk => hk) ?aF ?aB ?aS ?aL ?_; (case aR => exact (by skip; exact Kd.V_F (e := 35) (base := w.heap.size) (V_mono (ok' := (fun k_ => ((fun k_ => ((P1_ k_ ∨ P2_ k_) ∨ w.heap.size ≤ k_))) k_ ∧ some k_ ≠ (.slice none 0 0 : Value).ownBlock)) (HO1.out) (fun k_ hk => ⟨hk, (by simp [Value.ownBlock])⟩)))); (case aB => exact (bU_ HB.out)); (case aF => exact (fun k_ hk => (.inr (Nat.le_trans (below_size (bU_ HB.out)) hk)))); (case aO => exact ((Kd.N_nil _ _ _ _ (fun k_ => ((P1_ k_ ∨ P2_ k_) ∨ w.heap.size ≤ k_))))); (case aS => exact (below_size (bU_ HB.out))); (case aL => have := LMc6.out; omega); intro v1033 w8 ho hb hg hat; rw [← Ny1032.out] at ho; refine nx4_ (Kd.V_afterv (Kd.V_apart_nil (vU_ HO1.out)) hg hat) (Kd.V_afterv (Kd.V_apart_nil (vU_ HO2.out)) hg hat) (hb) (ho) ?_; clear HO1 HO2 HB; intro HO1 HO2 HB HO1034; clear ho hb hg hat) | ((with_reducible refine gate_builtin (b := .append) (xs := #[.tmp 15, .tmp 16]) rfl ?_); (try (refine gate_guard (by rfl) ?_; dsimp only)); at_builtin; refine Kd.N_append_rows (Kd.slice 48 (Kd.int .u64)) (w0 := w) w.heap.size rfl (.tmp 15) (.tmp 16) 42 35 (.slice none 0 0) 24 rfl Tryd.underlying42 info35 rfl (by decide) (by omega) v1033 y1032 l2 _ _ _ (fun k_ => ((P1_ k_ ∨ P2_ k_) ∨ w.heap.size ≤ k_)) (fun k_ => ((fun k_ => ((P1_ k_ ∨ P2_ k_) ∨ w.heap.size ≤ k_))) k_ ∧ some k_ ≠ (v1033 : Value).ownBlock) rfl rfl ?aO ?aR (fun _ hk => hk) ?aF ?aB ?aS ?aL ?_; (case aR => exact (by skip; exact Kd.V_F (e := 35) (base := w.heap.size) (V_mono (ok' := (fun k_ => ((fun k_ => ((P1_ k_ ∨ P2_ k_) ∨ w.heap.size ≤ k_))) k_ ∧ some k_ ≠ (v1033 : Value).ownBlock)) (HO2.out) (fun k_ hk => ⟨hk.1, hk.2⟩)))); (case aB => exact (bU_ HB.out)); (case aF => exact (fun k_ hk => (.inr (Nat.le_trans (below_size (bU_ HB.out)) hk)))); (case aO => exact (by (with_reducible repeat (first | apply Kd.N_alloc | apply Kd.N_drewN | apply Kd.N_drew)); exact HO1034.out)); (case aS => exact (below_size (bU_ HB.out))); (case aL => have := LMc7.out; omega); intro v1036 w9 ho hb hg hat; rw [← Ny1035.out] at ho; refine nx4_ (Kd.V_afterv (ok := (fun k_ => ((P1_ k_ ∨ P2_ k_) ∨ w.heap.size ≤ k_))) (vU_ HO1.out) hg hat) (Kd.V_afterv (ok := (fun k_ => ((P1_ k_ ∨ P2_ k_) ∨ w.heap.size ≤ k_))) (vU_ HO2.out) hg hat) (hb) (ho) ?_; clear HO1 HO2 HB HO1034; intro HO1 HO2 HB HO1037; clear ho hb hg hat)); try go_wp2_with (first | (go_at_call 51; (with_reducible refine (attestorref01_Valid.calls a0 true _ A4.out).mono ?_); rintro e w' ⟨rfl, ⟨nd, rfl⟩⟩; (try first | exact ⟨rfl, _, World.drewN_drewN _ _ _⟩ | exact ⟨rfl, _, dd_⟩)) | ((with_reducible refine gate_builtin (b := .append) (xs := #[.tmp 12, .tmp 13]) rfl ?_); (try (refine gate_guard (by rfl) ?_; dsimp only)); at_builtin; refine Kd.N_append_rows (Kd.slice 48 (Kd.int .u64)) (w0 := w) w.heap.size rfl (.tmp 12) (.tmp 13) 42 35 (.slice none 0 0) 24 rfl Tryd.underlying42 info35 rfl (by decide) (by omega) (.slice none 0 0) ([] : List (List Int)) l1 _ _ _ (fun k_ => ((P1_ k_ ∨ P2_ k_) ∨ w.heap.size ≤ k_)) (fun k_ => ((fun k_ => ((P1_ k_ ∨ P2_ k_) ∨ w.heap.size ≤ k_))) k_ ∧ some k_ ≠ (.slice none 0 0 : Value).ownBlock) rfl rfl ?aO ?aR (fun _ hk => hk) ?aF ?aB ?aS ?aL ?_; (case aR => exact (by skip; exact Kd.V_F (e := 35) (base := w.heap.size) (V_mono (ok' := (fun k_ => ((fun k_ => ((P1_ k_ ∨ P2_ k_) ∨ w.heap.size ≤ k_))) k_ ∧ some k_ ≠ (.slice none 0 0 : Value).ownBlock)) (HO1.out) (fun k_ hk => ⟨hk, (by simp [Value.ownBlock])⟩)))); (case aB => exact (bU_ HB.out)); (case aF => exact (fun k_ hk => (.inr (Nat.le_trans (below_size (bU_ HB.out)) hk)))); (case aO => exact ((Kd.N_nil _ _ _ _ (fun k_ => ((P1_ k_ ∨ P2_ k_) ∨ w.heap.size ≤ k_))))); (case aS => exact (below_size (bU_ HB.out))); (case aL => have := LMc6.out; omega); intro v1033 w8 ho hb hg hat; rw [← Ny1032.out] at ho; refine nx4_ (Kd.V_afterv (Kd.V_apart_nil (vU_ HO1.out)) hg hat) (Kd.V_afterv (Kd.V_apart_nil (vU_ HO2.out)) hg hat) (hb) (ho) ?_; clear HO1 HO2 HB; intro HO1 HO2 HB HO1034; clear ho hb hg hat) | ((with_reducible refine gate_builtin (b := .append) (xs := #[.tmp 15, .tmp 16]) rfl ?_); (try (refine gate_guard (by rfl) ?_; dsimp only)); at_builtin; refine Kd.N_append_rows (Kd.slice 48 (Kd.int .u64)) (w0 := w) w.heap.size rfl (.tmp 15) (.tmp 16) 42 35 (.slice none 0 0) 24 rfl Tryd.underlying42 info35 rfl (by decide) (by omega) v1033 y1032 l2 _ _ _ (fun k_ => ((P1_ k_ ∨ P2_ k_) ∨ w.heap.size ≤ k_)) (fun k_ => ((fun k_ => ((P1_ k_ ∨ P2_ k_) ∨ w.heap.size ≤ k_))) k_ ∧ some k_ ≠ (v1033 : Value).ownBlock) rfl rfl ?aO ?aR (fun _ hk => hk) ?aF ?aB ?aS ?aL ?_; (case aR => exact (by skip; exact Kd.V_F (e := 35) (base := w.heap.size) (V_mono (ok' := (fun k_ => ((fun k_ => ((P1_ k_ ∨ P2_ k_) ∨ w.heap.size ≤ k_))) k_ ∧ some k_ ≠ (v1033 : Value).ownBlock)) (HO2.out) (fun k_ hk => ⟨hk.1, hk.2⟩)))); (case aB => exact (bU_ HB.out)); (case aF => exact (fun k_ hk => (.inr (Nat.le_trans (below_size (bU_ HB.out)) hk)))); (case aO => exact (by (with_reducible repeat (first | apply Kd.N_alloc | apply Kd.N_drewN | apply Kd.N_drew)); exact HO1034.out)); (case aS => exact (below_size (bU_ HB.out))); (case aL => have := LMc7.out; omega); intro v1036 w9 ho hb hg hat; rw [← Ny1035.out] at ho; refine nx4_ (Kd.V_afterv (ok := (fun k_ => ((P1_ k_ ∨ P2_ k_) ∨ w.heap.size ≤ k_))) (vU_ HO1.out) hg hat) (Kd.V_afterv (ok := (fun k_ => ((P1_ k_ ∨ P2_ k_) ∨ w.heap.size ≤ k_))) (vU_ HO2.out) hg hat) (hb) (ho) ?_; clear HO1 HO2 HB HO1034; intro HO1 HO2 HB HO1037; clear ho hb hg hat)))
  go_loopg [8] k (fun kq v8 w' => ∃ (x8_1 : Int), v8 = .int .i64 x8_1 ∧ Aside0 (attestorref11_tuples.l0 kq a0 l1 l2 y1035 x8_1 = some r) ∧ Aside0 (kq ≤ k) ∧ Aside0 (Kd.V (Kd.slice 48 (Kd.int .u64)) 35 w' w.heap.size (fun k_ => ((P1_ k_ ∨ P2_ k_) ∨ w.heap.size ≤ k_) ∧ some k_ ≠ (v1036 : Value).ownBlock) (.slice A1 l1.length c1) l1) ∧ Aside0 (Kd.V (Kd.slice 48 (Kd.int .u64)) 35 w' w.heap.size (fun k_ => ((P1_ k_ ∨ P2_ k_) ∨ w.heap.size ≤ k_) ∧ some k_ ≠ (v1036 : Value).ownBlock) (.slice A2 l2.length c2) l2) ∧ Aside0 (Kd.N (Kd.slice 48 (Kd.int .u64)) 35 w' w.heap.size (fun k_ => ((P1_ k_ ∨ P2_ k_) ∨ w.heap.size ≤ k_)) v1036 y1035) ∧ Aside0 (Below w.heap.size w w'))
  case atStart => exact ⟨(0), gb_, H', ⟨Nat.le_refl _⟩, ⟨vU_ HO1.out⟩, ⟨vU_ HO2.out⟩, ⟨by (with_reducible repeat (first | apply Kd.N_alloc | apply Kd.N_drewN | apply Kd.N_drew)); exact HO1037.out⟩, ⟨bU_ HB.out⟩⟩
  case round =>
   clear H'
   (try clear c1); (try clear c2); (try clear p2); (try clear c5); (try clear c6); (try clear c7)
   obtain ⟨x8_1, rfl, HA, HK1, HO_1, HO_2, HO_7, HB⟩ := hrel
   cases gk with
   | zero => exact absurd HA.out (by simp [attestorref11_tuples.l0])
   | succ k1 =>
    have H := HA.out
    clear HA
    simp only [attestorref11_tuples.l0] at H
    by_cases c10 : x8_1 < (y1035.length : Int)
    ·rw [if_pos c10] at H
     have c10b0 := decide_eq_true c10
     clear c10
     obtain ⟨c11, H⟩ : (0 ≤ x8_1) ∧ _ := it_ H
     have c11b0 := decide_eq_true c11
     clear c11
     by_cases c12 : ((rd_L3 y1035 x8_1).length : Int) = 0
     ·rw [if_pos c12] at H
      have c12b0 := beq_iff_eq.mpr c12
      have c12b1 := bne_eq_false_iff_eq.mpr c12
      clear c12
      obtain rfl := Option.some.inj H
      obtain ⟨Ao13, co13, eo13⟩ := Kd.N_slice HO_7.out
      subst eo13
      have p1038 : 0 ≤ (x8_1 : Int) := od_
      have q1038 : x8_1 < (y1035.length : Int) := od_
      obtain ⟨ad1038, A1038_0, c1038_0, e1038, hx1038_0, hl1038_0, hi1038_0⟩ := at_L3 (Kd.N_reads' HO_7.out).2.2 x8_1 p1038 q1038
      cases e1038
      obtain ⟨ce1038, hce1038, hMe1038, hcc1038⟩ := Kd.N_get HO_7.out [] x8_1 p1038 (by first | exact q1038 | exact od_ | (have e_ := (Kd.N_reads' HO_7.out).1; omega))
      obtain ⟨ua1038_0, uc1038_0, rfl, ul1038_0, ge1038_0⟩ := Kd.FK_slice_open hMe1038
      have hv1038_0 := hcc1038 0 _ rfl
      rw [Nat.add_zero, show ((Kd.slice 48 (Kd.int .u64))).sz = 1 from rfl, Nat.mul_one] at hv1038_0
      replace hv1038_0 := Option.some.inj (hv1038_0.symm.trans hx1038_0)
      injection hv1038_0 with hva_ hvn_ hvc_
      rw [hva_] at ge1038_0
      rw [hvc_] at ul1038_0
      have HL1038_0 := ak (show Kd.V (Kd.int .u64) 48 _ w.heap.size _ _ (rd_L3 y1035 x8_1) from V_mk ul1038_0 ge1038_0)
      clear hva_ hvn_ hvc_ ge1038_0 ul1038_0
      clear hcc1038 hce1038
      have HR1038_0 := ak hi1038_0
      have HC1038_0 := ak hl1038_0
      clear hi1038_0 hl1038_0
      replace p1038 := eq_true p1038
      replace q1038 := eq_true q1038
      go_wp2
      repeat (go_quiet (fail); try go_wp2)
      go_ret
      exact ⟨eW_, bU_ HB.out⟩
     rw [if_neg c12] at H
     have c12b0 := beq_eq_false_iff_ne.mpr c12
     have c12b1 := bne_iff_ne.mpr c12
     have c12b2 : ¬ ((rd_L3 y1035 x8_1) = []) := fun h_ => c12 (by rw [h_]; rfl)
     obtain ⟨c14, H⟩ : (0 < (y1035.length : Int)) ∧ _ := it_ H
     have c14b0 := decide_eq_true c14
     have c14b1 : decide (0 < y1035.length) = true := decide_eq_true (by omega)
     clear c14
     by_cases c15 : ((rd_L3 y1035 x8_1).length : Int) = ((rd_L3 y1035 0).length : Int)
     ·rw [if_pos c15] at H
      have c15b0 := beq_iff_eq.mpr c15
      have c15b1 := bne_eq_false_iff_eq.mpr c15
      have c15b2 : ((rd_L3 y1035 x8_1).length == (rd_L3 y1035 0).length) = true := by first | simpa using c15 | (simp at c15 ⊢; omega)
      clear c15
      have H' := ak H
      clear H
      obtain ⟨Ao16, co16, eo16⟩ := Kd.N_slice HO_7.out
      subst eo16
      have p1038 : 0 ≤ (x8_1 : Int) := od_
      have q1038 : x8_1 < (y1035.length : Int) := od_
      obtain ⟨ad1038, A1038_0, c1038_0, e1038, hx1038_0, hl1038_0, hi1038_0⟩ := at_L3 (Kd.N_reads' HO_7.out).2.2 x8_1 p1038 q1038
      cases e1038
      obtain ⟨ce1038, hce1038, hMe1038, hcc1038⟩ := Kd.N_get HO_7.out [] x8_1 p1038 (by first | exact q1038 | exact od_ | (have e_ := (Kd.N_reads' HO_7.out).1; omega))
      obtain ⟨ua1038_0, uc1038_0, rfl, ul1038_0, ge1038_0⟩ := Kd.FK_slice_open hMe1038
      have hv1038_0 := hcc1038 0 _ rfl
      rw [Nat.add_zero, show ((Kd.slice 48 (Kd.int .u64))).sz = 1 from rfl, Nat.mul_one] at hv1038_0
      replace hv1038_0 := Option.some.inj (hv1038_0.symm.trans hx1038_0)
      injection hv1038_0 with hva_ hvn_ hvc_
      rw [hva_] at ge1038_0
      rw [hvc_] at ul1038_0
      have HL1038_0 := ak (show Kd.V (Kd.int .u64) 48 _ w.heap.size _ _ (rd_L3 y1035 x8_1) from V_mk ul1038_0 ge1038_0)
      clear hva_ hvn_ hvc_ ge1038_0 ul1038_0
      clear hcc1038 hce1038
      have HR1038_0 := ak hi1038_0
      have HC1038_0 := ak hl1038_0
      clear hi1038_0 hl1038_0
      replace p1038 := eq_true p1038
      replace q1038 := eq_true q1038
      have p1039 : 0 ≤ (x8_1 : Int) := od_
      have q1039 : x8_1 < (y1035.length : Int) := od_
      obtain ⟨ad1039, A1039_0, c1039_0, e1039, hx1039_0, hl1039_0, hi1039_0⟩ := at_L3 (Kd.N_reads' HO_7.out).2.2 x8_1 p1039 q1039
      obtain rfl : ad1038 = ad1039 := (by injection e1039)
      obtain ⟨ce1039, hce1039, hMe1039, hcc1039⟩ := Kd.N_get HO_7.out [] x8_1 p1039 (by first | exact q1039 | exact od_ | (have e_ := (Kd.N_reads' HO_7.out).1; omega))
      obtain ⟨ua1039_0, uc1039_0, rfl, ul1039_0, ge1039_0⟩ := Kd.FK_slice_open hMe1039
      have hv1039_0 := hcc1039 0 _ rfl
      rw [Nat.add_zero, show ((Kd.slice 48 (Kd.int .u64))).sz = 1 from rfl, Nat.mul_one] at hv1039_0
      replace hv1039_0 := Option.some.inj (hv1039_0.symm.trans hx1039_0)
      injection hv1039_0 with hva_ hvn_ hvc_
      rw [hva_] at ge1039_0
      rw [hvc_] at ul1039_0
      have HL1039_0 := ak (show Kd.V (Kd.int .u64) 48 _ w.heap.size _ _ (rd_L3 y1035 x8_1) from V_mk ul1039_0 ge1039_0)
      clear hva_ hvn_ hvc_ ge1039_0 ul1039_0
      clear hcc1039 hce1039
      have HR1039_0 := ak hi1039_0
      have HC1039_0 := ak hl1039_0
      clear hi1039_0 hl1039_0
      replace p1039 := eq_true p1039
      replace q1039 := eq_true q1039
      have ea_ := Option.some.inj (hx1038_0.symm.trans hx1039_0)
      injection ea_ with ea_ en_ ec_
      subst ea_
      subst ec_
      clear en_
      have p1040 : 0 ≤ (0 : Int) := (by omega)
      have q1040 : 0 < (y1035.length : Int) := od_
      obtain ⟨ad1040, A1040_0, c1040_0, e1040, hx1040_0, hl1040_0, hi1040_0⟩ := at_L3 (Kd.N_reads' HO_7.out).2.2 0 p1040 q1040
      obtain rfl : ad1038 = ad1040 := (by injection e1040)
      obtain ⟨ce1040, hce1040, hMe1040, hcc1040⟩ := Kd.N_get HO_7.out [] 0 p1040 (by first | exact q1040 | exact od_ | (have e_ := (Kd.N_reads' HO_7.out).1; omega))
      obtain ⟨ua1040_0, uc1040_0, rfl, ul1040_0, ge1040_0⟩ := Kd.FK_slice_open hMe1040
      have hv1040_0 := hcc1040 0 _ rfl
      rw [Nat.add_zero, show ((Kd.slice 48 (Kd.int .u64))).sz = 1 from rfl, Nat.mul_one] at hv1040_0
      replace hv1040_0 := Option.some.inj (hv1040_0.symm.trans hx1040_0)
      injection hv1040_0 with hva_ hvn_ hvc_
      rw [hva_] at ge1040_0
      rw [hvc_] at ul1040_0
      have HL1040_0 := ak (show Kd.V (Kd.int .u64) 48 _ w.heap.size _ _ (rd_L3 y1035 0) from V_mk ul1040_0 ge1040_0)
      clear hva_ hvn_ hvc_ ge1040_0 ul1040_0
      clear hcc1040 hce1040
      have qi1040 : (0 < y1035.length) = True := eq_true (by omega)
      (try rw [show ((0 : Int)).toNat = 0 from rfl] at hx1040_0)
      (try rw [Addr.add_zero'] at hx1040_0)
      have HR1040_0 := ak hi1040_0
      have HC1040_0 := ak hl1040_0
      clear hi1040_0 hl1040_0
      replace p1040 := eq_true p1040
      replace q1040 := eq_true q1040
      go_wp2
      repeat (go_quiet (fail); try go_wp2)
      go_roundg k1
      case measure => have := HK1.out; omega
      case rel => exact ⟨(wrap64 (x8_1 + 1)), gb_, H', ⟨by have := HK1.out; omega⟩, ⟨vU_ HO_1.out⟩, ⟨vU_ HO_2.out⟩, ⟨by (with_reducible repeat (first | apply Kd.N_alloc | apply Kd.N_drewN | apply Kd.N_drew)); exact HO_7.out⟩, ⟨bU_ HB.out⟩⟩
     rw [if_neg c15] at H
     have c15b0 := beq_eq_false_iff_ne.mpr c15
     have c15b1 := bne_iff_ne.mpr c15
     have c15b2 : ((rd_L3 y1035 x8_1).length == (rd_L3 y1035 0).length) = false := by first | simpa using c15 | (simp at c15 ⊢; omega)
     obtain rfl := Option.some.inj H
     obtain ⟨Ao17, co17, eo17⟩ := Kd.N_slice HO_7.out
     subst eo17
     have p1038 : 0 ≤ (x8_1 : Int) := od_
     have q1038 : x8_1 < (y1035.length : Int) := od_
     obtain ⟨ad1038, A1038_0, c1038_0, e1038, hx1038_0, hl1038_0, hi1038_0⟩ := at_L3 (Kd.N_reads' HO_7.out).2.2 x8_1 p1038 q1038
     cases e1038
     obtain ⟨ce1038, hce1038, hMe1038, hcc1038⟩ := Kd.N_get HO_7.out [] x8_1 p1038 (by first | exact q1038 | exact od_ | (have e_ := (Kd.N_reads' HO_7.out).1; omega))
     obtain ⟨ua1038_0, uc1038_0, rfl, ul1038_0, ge1038_0⟩ := Kd.FK_slice_open hMe1038
     have hv1038_0 := hcc1038 0 _ rfl
     rw [Nat.add_zero, show ((Kd.slice 48 (Kd.int .u64))).sz = 1 from rfl, Nat.mul_one] at hv1038_0
     replace hv1038_0 := Option.some.inj (hv1038_0.symm.trans hx1038_0)
     injection hv1038_0 with hva_ hvn_ hvc_
     rw [hva_] at ge1038_0
     rw [hvc_] at ul1038_0
     have HL1038_0 := ak (show Kd.V (Kd.int .u64) 48 _ w.heap.size _ _ (rd_L3 y1035 x8_1) from V_mk ul1038_0 ge1038_0)
     clear hva_ hvn_ hvc_ ge1038_0 ul1038_0
     clear hcc1038 hce1038
     have HR1038_0 := ak hi1038_0
     have HC1038_0 := ak hl1038_0
     clear hi1038_0 hl1038_0
     replace p1038 := eq_true p1038
     replace q1038 := eq_true q1038
     have p1039 : 0 ≤ (x8_1 : Int) := od_
     have q1039 : x8_1 < (y1035.length : Int) := od_
     obtain ⟨ad1039, A1039_0, c1039_0, e1039, hx1039_0, hl1039_0, hi1039_0⟩ := at_L3 (Kd.N_reads' HO_7.out).2.2 x8_1 p1039 q1039
     obtain rfl : ad1038 = ad1039 := (by injection e1039)
     obtain ⟨ce1039, hce1039, hMe1039, hcc1039⟩ := Kd.N_get HO_7.out [] x8_1 p1039 (by first | exact q1039 | exact od_ | (have e_ := (Kd.N_reads' HO_7.out).1; omega))
     obtain ⟨ua1039_0, uc1039_0, rfl, ul1039_0, ge1039_0⟩ := Kd.FK_slice_open hMe1039
     have hv1039_0 := hcc1039 0 _ rfl
     rw [Nat.add_zero, show ((Kd.slice 48 (Kd.int .u64))).sz = 1 from rfl, Nat.mul_one] at hv1039_0
     replace hv1039_0 := Option.some.inj (hv1039_0.symm.trans hx1039_0)
     injection hv1039_0 with hva_ hvn_ hvc_
     rw [hva_] at ge1039_0
     rw [hvc_] at ul1039_0
     have HL1039_0 := ak (show Kd.V (Kd.int .u64) 48 _ w.heap.size _ _ (rd_L3 y1035 x8_1) from V_mk ul1039_0 ge1039_0)
     clear hva_ hvn_ hvc_ ge1039_0 ul1039_0
     clear hcc1039 hce1039
     have HR1039_0 := ak hi1039_0
     have HC1039_0 := ak hl1039_0
     clear hi1039_0 hl1039_0
     replace p1039 := eq_true p1039
     replace q1039 := eq_true q1039
     have ea_ := Option.some.inj (hx1038_0.symm.trans hx1039_0)
     injection ea_ with ea_ en_ ec_
     subst ea_
     subst ec_
     clear en_
     have p1040 : 0 ≤ (0 : Int) := (by omega)
     have q1040 : 0 < (y1035.length : Int) := od_
     obtain ⟨ad1040, A1040_0, c1040_0, e1040, hx1040_0, hl1040_0, hi1040_0⟩ := at_L3 (Kd.N_reads' HO_7.out).2.2 0 p1040 q1040
     obtain rfl : ad1038 = ad1040 := (by injection e1040)
     obtain ⟨ce1040, hce1040, hMe1040, hcc1040⟩ := Kd.N_get HO_7.out [] 0 p1040 (by first | exact q1040 | exact od_ | (have e_ := (Kd.N_reads' HO_7.out).1; omega))
     obtain ⟨ua1040_0, uc1040_0, rfl, ul1040_0, ge1040_0⟩ := Kd.FK_slice_open hMe1040
     have hv1040_0 := hcc1040 0 _ rfl
     rw [Nat.add_zero, show ((Kd.slice 48 (Kd.int .u64))).sz = 1 from rfl, Nat.mul_one] at hv1040_0
     replace hv1040_0 := Option.some.inj (hv1040_0.symm.trans hx1040_0)
     injection hv1040_0 with hva_ hvn_ hvc_
     rw [hva_] at ge1040_0
     rw [hvc_] at ul1040_0
     have HL1040_0 := ak (show Kd.V (Kd.int .u64) 48 _ w.heap.size _ _ (rd_L3 y1035 0) from V_mk ul1040_0 ge1040_0)
     clear hva_ hvn_ hvc_ ge1040_0 ul1040_0
     clear hcc1040 hce1040
     have qi1040 : (0 < y1035.length) = True := eq_true (by omega)
     (try rw [show ((0 : Int)).toNat = 0 from rfl] at hx1040_0)
     (try rw [Addr.add_zero'] at hx1040_0)
     have HR1040_0 := ak hi1040_0
     have HC1040_0 := ak hl1040_0
     clear hi1040_0 hl1040_0
     replace p1040 := eq_true p1040
     replace q1040 := eq_true q1040
     go_wp2
     repeat (go_quiet (fail); try go_wp2)
     go_ret
     exact ⟨eW_, bU_ HB.out⟩
    rw [if_neg c10] at H
    have c10b0 := decide_eq_false c10
    clear c10
    by_cases c18 : a0 > 1
    ·rw [if_pos c18] at H
     have c18b0 : decide (1 < a0) = true := decide_eq_true c18
     clear c18
     obtain rfl := Option.some.inj H
     obtain ⟨Ao19, co19, eo19⟩ := Kd.N_slice HO_7.out
     subst eo19
     go_wp2
     repeat (go_quiet (fail); try go_wp2)
     go_ret
     exact ⟨eW_, bU_ HB.out⟩
    rw [if_neg c18] at H
    have c18b0 : decide (1 < a0) = false := decide_eq_false c18
    clear c18
    by_cases c20 : (l1.length : Int) > 32
    ·rw [if_pos c20] at H
     have c20b0 : decide (32 < (l1.length : Int)) = true := decide_eq_true c20
     have c20b1 : decide (32 < l1.length) = true := decide_eq_true (by omega)
     clear c20
     obtain rfl := Option.some.inj H
     obtain ⟨Ao21, co21, eo21⟩ := Kd.N_slice HO_7.out
     subst eo21
     go_wp2
     repeat (go_quiet (fail); try go_wp2)
     go_ret
     exact ⟨eW_, bU_ HB.out⟩
    rw [if_neg c20] at H
    have c20b0 : decide (32 < (l1.length : Int)) = false := decide_eq_false c20
    have c20b1 : decide (32 < l1.length) = false := decide_eq_false (by omega)
    clear c20
    by_cases c22 : (l2.length : Int) > 32
    ·rw [if_pos c22] at H
     have c22b0 : decide (32 < (l2.length : Int)) = true := decide_eq_true c22
     have c22b1 : decide (32 < l2.length) = true := decide_eq_true (by omega)
     clear c22
     obtain rfl := Option.some.inj H
     obtain ⟨Ao23, co23, eo23⟩ := Kd.N_slice HO_7.out
     subst eo23
     go_wp2
     repeat (go_quiet (fail); try go_wp2)
     go_ret
     exact ⟨eW_, bU_ HB.out⟩
    rw [if_neg c22] at H
    have c22b0 : decide (32 < (l2.length : Int)) = false := decide_eq_false c22
    have c22b1 : decide (32 < l2.length) = false := decide_eq_false (by omega)
    clear c22
    by_cases c24 : (y1035.length : Int) > 0
    ·rw [if_pos c24] at H
     have c24b0 : decide (0 < (y1035.length : Int)) = true := decide_eq_true c24
     have c24b1 : decide (0 < y1035.length) = true := decide_eq_true (by omega)
     clear c24
     obtain ⟨c25, H⟩ : (0 < (y1035.length : Int)) ∧ _ := it_ H
     have c25b0 := decide_eq_true c25
     have c25b1 : decide (0 < y1035.length) = true := decide_eq_true (by omega)
     clear c25
     by_cases c26 : ((rd_L3 y1035 0).length : Int) > 8
     ·rw [if_pos c26] at H
      have c26b0 : decide (8 < ((rd_L3 y1035 0).length : Int)) = true := decide_eq_true c26
      have c26b1 : decide (8 < (rd_L3 y1035 0).length) = true := decide_eq_true (by omega)
      clear c26
      obtain rfl := Option.some.inj H
      obtain ⟨Ao27, co27, eo27⟩ := Kd.N_slice HO_7.out
      subst eo27
      have p1041 : 0 ≤ (0 : Int) := (by omega)
      have q1041 : 0 < (y1035.length : Int) := od_
      obtain ⟨ad1041, A1041_0, c1041_0, e1041, hx1041_0, hl1041_0, hi1041_0⟩ := at_L3 (Kd.N_reads' HO_7.out).2.2 0 p1041 q1041
      cases e1041
      obtain ⟨ce1041, hce1041, hMe1041, hcc1041⟩ := Kd.N_get HO_7.out [] 0 p1041 (by first | exact q1041 | exact od_ | (have e_ := (Kd.N_reads' HO_7.out).1; omega))
      obtain ⟨ua1041_0, uc1041_0, rfl, ul1041_0, ge1041_0⟩ := Kd.FK_slice_open hMe1041
      have hv1041_0 := hcc1041 0 _ rfl
      rw [Nat.add_zero, show ((Kd.slice 48 (Kd.int .u64))).sz = 1 from rfl, Nat.mul_one] at hv1041_0
      replace hv1041_0 := Option.some.inj (hv1041_0.symm.trans hx1041_0)
      injection hv1041_0 with hva_ hvn_ hvc_
      rw [hva_] at ge1041_0
      rw [hvc_] at ul1041_0
      have HL1041_0 := ak (show Kd.V (Kd.int .u64) 48 _ w.heap.size _ _ (rd_L3 y1035 0) from V_mk ul1041_0 ge1041_0)
      clear hva_ hvn_ hvc_ ge1041_0 ul1041_0
      clear hcc1041 hce1041
      have qi1041 : (0 < y1035.length) = True := eq_true (by omega)
      (try rw [show ((0 : Int)).toNat = 0 from rfl] at hx1041_0)
      (try rw [Addr.add_zero'] at hx1041_0)
      have HR1041_0 := ak hi1041_0
      have HC1041_0 := ak hl1041_0
      clear hi1041_0 hl1041_0
      replace p1041 := eq_true p1041
      replace q1041 := eq_true q1041
      go_wp2
      repeat (go_quiet (fail); try go_wp2)
      go_ret
      exact ⟨eW_, bU_ HB.out⟩
     rw [if_neg c26] at H
     have c26b0 : decide (8 < ((rd_L3 y1035 0).length : Int)) = false := decide_eq_false c26
     have c26b1 : decide (8 < (rd_L3 y1035 0).length) = false := decide_eq_false (by omega)
     clear c26
     obtain rfl := Option.some.inj H
     obtain ⟨Ao28, co28, eo28⟩ := Kd.N_slice HO_7.out
     subst eo28
     have p1041 : 0 ≤ (0 : Int) := (by omega)
     have q1041 : 0 < (y1035.length : Int) := od_
     obtain ⟨ad1041, A1041_0, c1041_0, e1041, hx1041_0, hl1041_0, hi1041_0⟩ := at_L3 (Kd.N_reads' HO_7.out).2.2 0 p1041 q1041
     cases e1041
     obtain ⟨ce1041, hce1041, hMe1041, hcc1041⟩ := Kd.N_get HO_7.out [] 0 p1041 (by first | exact q1041 | exact od_ | (have e_ := (Kd.N_reads' HO_7.out).1; omega))
     obtain ⟨ua1041_0, uc1041_0, rfl, ul1041_0, ge1041_0⟩ := Kd.FK_slice_open hMe1041
     have hv1041_0 := hcc1041 0 _ rfl
     rw [Nat.add_zero, show ((Kd.slice 48 (Kd.int .u64))).sz = 1 from rfl, Nat.mul_one] at hv1041_0
     replace hv1041_0 := Option.some.inj (hv1041_0.symm.trans hx1041_0)
     injection hv1041_0 with hva_ hvn_ hvc_
     rw [hva_] at ge1041_0
     rw [hvc_] at ul1041_0
     have HL1041_0 := ak (show Kd.V (Kd.int .u64) 48 _ w.heap.size _ _ (rd_L3 y1035 0) from V_mk ul1041_0 ge1041_0)
     clear hva_ hvn_ hvc_ ge1041_0 ul1041_0
     clear hcc1041 hce1041
     have qi1041 : (0 < y1035.length) = True := eq_true (by omega)
     (try rw [show ((0 : Int)).toNat = 0 from rfl] at hx1041_0)
     (try rw [Addr.add_zero'] at hx1041_0)
     have HR1041_0 := ak hi1041_0
     have HC1041_0 := ak hl1041_0
     clear hi1041_0 hl1041_0
     replace p1041 := eq_true p1041
     replace q1041 := eq_true q1041
     go_wp2
     repeat (go_quiet (fail); try go_wp2)
     go_ret
     exact ⟨eW_, bU_ HB.out⟩
    rw [if_neg c24] at H
    have c24b0 : decide (0 < (y1035.length : Int)) = false := decide_eq_false c24
    have c24b1 : decide (0 < y1035.length) = false := decide_eq_false (by omega)
    clear c24
    obtain rfl := Option.some.inj H
    obtain ⟨Ao29, co29, eo29⟩ := Kd.N_slice HO_7.out
    subst eo29
    go_wp2
    repeat (go_quiet (fail); try go_wp2)
    go_ret
    exact ⟨eW_, bU_ HB.out⟩
 replace c5 := Bool.eq_false_iff.mpr c5
 subst c5
 rw [if_neg (show ¬ (false = true) by decide)] at H
 obtain rfl := Option.some.inj H
 go_enter Tryd.func73, Tryd.ntmps73
 go_wp2_with (first | (go_at_call 51; (with_reducible refine (attestorref01_Valid.calls a0 false _ A4.out).mono ?_); rintro e w' ⟨rfl, ⟨nd, rfl⟩⟩; (try first | exact ⟨rfl, _, World.drewN_drewN _ _ _⟩ | exact ⟨rfl, _, dd_⟩)))
 repeat (go_quiet (first | (go_at_call 51; (with_reducible refine (attestorref01_Valid.calls a0 false _ A4.out).mono ?_); rintro e w' ⟨rfl, ⟨nd, rfl⟩⟩; (try first | exact ⟨rfl, _, World.drewN_drewN _ _ _⟩ | exact ⟨rfl, _, dd_⟩))); try go_wp2_with (first | (go_at_call 51; (with_reducible refine (attestorref01_Valid.calls a0 false _ A4.out).mono ?_); rintro e w' ⟨rfl, ⟨nd, rfl⟩⟩; (try first | exact ⟨rfl, _, World.drewN_drewN _ _ _⟩ | exact ⟨rfl, _, dd_⟩))))
 go_ret
 exact ⟨eW_, bU_ HB.out⟩

def attestorref11_Value.f (k : Nat) (a0 : Int) (l1 : List Int) (a2 : Int) (a3 : Int) : Option (Int) := (attestorref03_Eval.f k a0 l1 a3).bind fun t1042 => ((attestorref01_Add.f a0 a2 t1042).bind fun t1043 => (some t1043))
set_option maxHeartbeats 8000000 in
set_option maxRecDepth 100000 in
theorem attestorref11_Value.calls (k : Nat) (a0 : Int) (A1 : Option Addr) (c1 : Nat) (l1 : List Int) (a2 : Int) (a3 : Int) (r : Int) (w : World) (hr1 : Kd.C (Kd.int .u64) w A1 l1.length l1) (hc1 : l1.length ≤ c1) (h : attestorref11_Value.f k a0 l1 a2 a3 = some r) :
  Calls Tryd.prog 75 #[.int .i64 a0, .slice A1 l1.length c1, .int .u64 a2, .int .u64 a3] w fun e w' => e = .returned (.int .u64 r) ∧ Drawn0 w w' := by
 have HR1 := ak hr1
 have HC1 := ak hc1
 clear hr1 hc1
 have H := h
 clear h
 unfold attestorref11_Value.f at H
 revert H
 refine bd_ fun t1042 A5 H => ?_
 revert H
 refine bd_ fun t1043 A6 H => ?_
 obtain rfl := Option.some.inj H
 go_enter Tryd.func75, Tryd.ntmps75
 go_wp2_with (first | ((with_reducible refine gate_callee (f := 72) rfl ?_); refine gl_ (some 14) Tryd.func72 #[.int .i64 a0, .slice A1 l1.length c1, .int .u64 a3] ?_; (with_reducible refine (attestorref03_Eval.calls k a0 _ _ l1 a3 t1042 _ ?side1 ?side2 A5.out).mono ?_); (case side1 => exact cU_ HR1.out); (case side2 => exact HC1.out); rintro e w' ⟨rfl, ⟨nd, rfl⟩⟩; refine ⟨_, rfl, ?_⟩) | ((with_reducible refine gate_callee (f := 76) rfl ?_); refine gl_ (some 15) Tryd.func76 #[.int .i64 a0, .int .u64 a2, .int .u64 t1042] ?_; (with_reducible refine (attestorref01_Add.calls a0 a2 t1042 t1043 _ A6.out).mono ?_); rintro e w' ⟨rfl, ⟨nd, rfl⟩⟩; refine ⟨_, rfl, ?_⟩))
 go_ret
 exact ⟨by first | rfl | (simp; done) | (simp [*]; done), by repeat (first | exact Drawn0.refl _ | apply Drawn0.step)⟩

mutual
def attestorref11_Equal.l0 : Nat → Int → List (List Int) → List (List Int) → Int → Int → Option (Int × Int)
 | 0, _, _, _, _, _ => none
 | k + 1, x0, x1, x2, x8, x9 => (attestorref01_P.f x0).bind fun t1046 => (if x9 < t1046 then (attestorref11_Equal.l1 k x0 x1 x2 x8 x9 0) else (some (x8, 0)))
def attestorref11_Equal.l1 : Nat → Int → List (List Int) → List (List Int) → Int → Int → Int → Option (Int × Int)
 | 0, _, _, _, _, _, _ => none
 | k + 1, x0, x1, x2, x8, x9, x10 => (attestorref01_P.f x0).bind fun t1047 => (if x10 < t1047 then (attestorref11_Equal.l2 k x0 x1 x2 x8 x9 x10 1 1 0) else (attestorref11_Equal.l0 k x0 x1 x2 x8 (IntKind.u64.wrap (x9 + 1))))
def attestorref11_Equal.l2 : Nat → Int → List (List Int) → List (List Int) → Int → Int → Int → Int → Int → Int → Option (Int × Int)
 | 0, _, _, _, _, _, _, _, _, _ => none
 | k + 1, x0, x1, x2, x8, x9, x10, x11, x12, x13 => if x13 < (x1.length : Int) then (if 0 ≤ x13 then ((attestorref11_Value.f k x0 (rd_L3 x1 x13) x9 x10).bind fun t1049 => ((attestorref01_Mul.f x0 x11 t1049).bind fun t1050 => (if x13 < (x2.length : Int) then ((attestorref11_Value.f k x0 (rd_L3 x2 x13) x9 x10).bind fun t1052 => ((attestorref01_Mul.f x0 x12 t1052).bind fun t1053 => (attestorref11_Equal.l2 k x0 x1 x2 x8 x9 x10 t1050 t1053 (wrap64 (x13 + 1))))) else (none)))) else (none)) else (if x11 = x12 then (attestorref11_Equal.l1 k x0 x1 x2 (wrap64 (x8 + 1)) x9 (IntKind.u64.wrap (x10 + 1))) else (attestorref11_Equal.l1 k x0 x1 x2 x8 x9 (IntKind.u64.wrap (x10 + 1))))
end
def attestorref11_Equal.f (k : Nat) (a0 : Int) (l1 : List (List Int)) (l2 : List (List Int)) : Option (Int × Int) := if (l1.length : Int) = (l2.length : Int) then ((attestorref11_tuples.f k a0 l1 l2).bind fun t1044 => (if t1044 = 0 then (attestorref11_Equal.l0 k a0 l1 l2 0 0) else ((attestorref11_tuples.f k a0 l1 l2).bind fun t1045 => (some (0, t1045))))) else (some (0, 1))
set_option maxHeartbeats 8000000 in
set_option maxRecDepth 100000 in
theorem attestorref11_Equal.calls (k : Nat) (a0 : Int) (A1 : Option Addr) (c1 : Nat) (l1 : List (List Int)) (A2 : Option Addr) (c2 : Nat) (l2 : List (List Int)) (r1 : Int) (r2 : Int) (w : World) (hr1 : Kd.C (Kd.slice 48 (Kd.int .u64)) w A1 l1.length l1) (hc1 : l1.length ≤ c1) (hr2 : Kd.C (Kd.slice 48 (Kd.int .u64)) w A2 l2.length l2) (hc2 : l2.length ≤ c2) (h : attestorref11_Equal.f k a0 l1 l2 = some (r1, r2)) :
  Calls Tryd.prog 30 #[.int .i64 a0, .slice A1 l1.length c1, .slice A2 l2.length c2] w fun e w' => e = .returned (.tuple #[.int .i64 r1, .int .i64 r2]) ∧ Below w.heap.size w w' := by
 have HR1 := ak hr1
 have HC1 := ak hc1
 clear hr1 hc1
 have HR2 := ak hr2
 have HC2 := ak hc2
 clear hr2 hc2
 have HB := ak (Below.refl w.heap.size w)
 have H := h
 clear h
 unfold attestorref11_Equal.f at H
 by_cases c4 : (l1.length : Int) = (l2.length : Int)
 ·rw [if_pos c4] at H
  have c4b0 := beq_iff_eq.mpr c4
  have c4b1 := bne_eq_false_iff_eq.mpr c4
  have c4b2 : (l1.length == l2.length) = true := by first | simpa using c4 | (simp at c4 ⊢; omega)
  clear c4
  revert H
  refine bd_ fun t1044 A5 H => ?_
  by_cases c6 : t1044 = 0
  ·rw [if_pos c6] at H
   have c6b0 := beq_iff_eq.mpr c6
   have c6b1 := bne_eq_false_iff_eq.mpr c6
   clear c6
   have H' := ak H
   clear H
   go_enter Tryd.func30, Tryd.ntmps30
   go_wp2_with (first | ((with_reducible refine gate_callee (f := 73) rfl ?_); refine gl_ (some 22) Tryd.func73 #[.int .i64 a0, .slice A1 l1.length c1, .slice A2 l2.length c2] ?_; (with_reducible refine (attestorref11_tuples.calls k a0 (fun k_ => k_ < w.heap.size) _ _ l1 (fun k_ => k_ < w.heap.size) _ _ l2 t1044 _ ?side1 ?side2 A5.out).mono ?_); (case side1 => exact V_mk HC1.out (F_below (C_F (Kd.heap_slice 48 (heap_int .u64)) HR1.out) (bU_ HB.out))); (case side2 => exact V_mk HC2.out (F_below (C_F (Kd.heap_slice 48 (heap_int .u64)) HR2.out) (bU_ HB.out))); rintro e w7 ⟨rfl, hb⟩; refine ⟨_, rfl, ?_⟩; refine nx1_ (below_step (bU_ HB.out) hb) ?_; clear HB; intro HB; clear hb))
   go_loopg [8, 9] k (fun kq v8 v9 w' => ∃ (x8_1 : Int) (x9_1 : Int), v8 = .int .i64 x8_1 ∧ v9 = .int .u64 x9_1 ∧ Aside0 (attestorref11_Equal.l0 kq a0 l1 l2 x8_1 x9_1 = some (r1, r2)) ∧ Aside0 (kq ≤ k) ∧ Aside0 (Below w.heap.size w w'))
   case atStart => exact ⟨(0), (0), gb_, gb_, H', ⟨Nat.le_refl _⟩, ⟨bU_ HB.out⟩⟩
   case round =>
    clear H'
    (try clear c1); (try clear c2); (try clear p2); (try clear c3); (try clear c4); (try clear c4b0); (try clear c4b1); (try clear c4b2); (try clear c6); (try clear c6b0); (try clear c6b1); (try clear c7)
    obtain ⟨x8_1, x9_1, rfl, rfl, HA, HK1, HB⟩ := hrel
    cases gk with
    | zero => exact absurd HA.out (by simp [attestorref11_Equal.l0])
    | succ k1 =>
     have H := HA.out
     clear HA
     simp only [attestorref11_Equal.l0] at H
     revert H
     refine bd_ fun t1046 A8 H => ?_
     by_cases c9 : x9_1 < t1046
     ·rw [if_pos c9] at H
      have c9b0 := decide_eq_true c9
      clear c9
      have H' := ak H
      clear H
      go_wp2_with (first | ((with_reducible refine gate_callee (f := 54) rfl ?_); refine gl_ (some 30) Tryd.func54 #[.int .i64 a0] ?_; (with_reducible refine (attestorref01_P.calls a0 t1046 _ A8.out).mono ?_); rintro e w' ⟨rfl, ⟨nd, rfl⟩⟩; refine ⟨_, rfl, ?_⟩))
      go_loopg [8, 10] k1 (fun kq v8 v10 w' => ∃ (x8_2 : Int) (x10_2 : Int), v8 = .int .i64 x8_2 ∧ v10 = .int .u64 x10_2 ∧ Aside0 (attestorref11_Equal.l1 kq a0 l1 l2 x8_2 x9_1 x10_2 = some (r1, r2)) ∧ Aside0 (kq ≤ k1) ∧ Aside0 (Below w.heap.size w w'))
      case atStart => exact ⟨(x8_1), (0), gb_, gb_, H', ⟨Nat.le_refl _⟩, ⟨bU_ HB.out⟩⟩
      case round =>
       clear H'
       (try clear c1); (try clear c2); (try clear p2); (try clear c3); (try clear c4); (try clear c4b0); (try clear c4b1); (try clear c4b2); (try clear c5); (try clear c6); (try clear c6b0); (try clear c6b1); (try clear c7); (try clear c9); (try clear c9b0)
       obtain ⟨x8_2, x10_2, rfl, rfl, HA, HK2, HB⟩ := hrel
       cases gk with
       | zero => exact absurd HA.out (by simp [attestorref11_Equal.l1])
       | succ k2 =>
        have H := HA.out
        clear HA
        simp only [attestorref11_Equal.l1] at H
        revert H
        refine bd_ fun t1047 A10 H => ?_
        by_cases c11 : x10_2 < t1047
        ·rw [if_pos c11] at H
         have c11b0 := decide_eq_true c11
         clear c11
         have H' := ak H
         clear H
         go_wp2_with (first | ((with_reducible refine gate_callee (f := 54) rfl ?_); refine gl_ (some 36) Tryd.func54 #[.int .i64 a0] ?_; (with_reducible refine (attestorref01_P.calls a0 t1047 _ A10.out).mono ?_); rintro e w' ⟨rfl, ⟨nd, rfl⟩⟩; refine ⟨_, rfl, ?_⟩))
         go_loopg [11, 12, 13] k2 (fun kq v11 v12 v13 w' => ∃ (x11_3 : Int) (x12_3 : Int) (x13_3 : Int), v11 = .int .u64 x11_3 ∧ v12 = .int .u64 x12_3 ∧ v13 = .int .i64 x13_3 ∧ Aside0 (attestorref11_Equal.l2 kq a0 l1 l2 x8_2 x9_1 x10_2 x11_3 x12_3 x13_3 = some (r1, r2)) ∧ Aside0 (kq ≤ k2) ∧ Aside0 (Below w.heap.size w w'))
         case atStart => exact ⟨(1), (1), (0), gb_, gb_, gb_, H', ⟨Nat.le_refl _⟩, ⟨bU_ HB.out⟩⟩
         case round =>
          clear H'
          (try clear c1); (try clear c2); (try clear p2); (try clear c3); (try clear c4); (try clear c4b0); (try clear c4b1); (try clear c4b2); (try clear c5); (try clear c6); (try clear c6b0); (try clear c6b1); (try clear c7); (try clear c9); (try clear c9b0); (try clear c11); (try clear c11b0)
          obtain ⟨x11_3, x12_3, x13_3, rfl, rfl, rfl, HA, HK3, HB⟩ := hrel
          cases gk with
          | zero => exact absurd HA.out (by simp [attestorref11_Equal.l2])
          | succ k3 =>
           have H := HA.out
           clear HA
           simp only [attestorref11_Equal.l2] at H
           by_cases c12 : x13_3 < (l1.length : Int)
           ·rw [if_pos c12] at H
            have c12b0 := decide_eq_true c12
            clear c12
            obtain ⟨c13, H⟩ : (0 ≤ x13_3) ∧ _ := it_ H
            have c13b0 := decide_eq_true c13
            clear c13
            revert H
            refine bd_ fun t1049 A14 H => ?_
            revert H
            refine bd_ fun t1050 A15 H => ?_
            obtain ⟨c16, H⟩ : (x13_3 < (l2.length : Int)) ∧ _ := it_ H
            have c16b0 := decide_eq_true c16
            clear c16
            revert H
            refine bd_ fun t1052 A17 H => ?_
            revert H
            refine bd_ fun t1053 A18 H => ?_
            have H' := ak H
            clear H
            have p1048 : 0 ≤ (x13_3 : Int) := od_
            have q1048 : x13_3 < (l1.length : Int) := od_
            obtain ⟨ad1048, A1048_0, c1048_0, e1048, hx1048_0, hl1048_0, hi1048_0⟩ := at_L3 HR1.out x13_3 p1048 q1048
            cases e1048
            replace hx1048_0 := (HB.out.cell (World.block_lt_of_cell? w _ hx1048_0)).trans hx1048_0
            have HR1048_0 := ak hi1048_0
            have HC1048_0 := ak hl1048_0
            clear hi1048_0 hl1048_0
            replace p1048 := eq_true p1048
            replace q1048 := eq_true q1048
            go_wp2_with (first | ((with_reducible refine gate_callee (f := 75) rfl ?_); refine gl_ (some 55) Tryd.func75 #[.int .i64 a0, .slice A1048_0 (rd_L3 l1 x13_3).length c1048_0, .int .u64 x9_1, .int .u64 x10_2] ?_; (with_reducible refine (attestorref11_Value.calls k3 a0 _ _ (rd_L3 l1 x13_3) x9_1 x10_2 t1049 _ ?side1 ?side2 A14.out).mono ?_); (case side1 => exact cU_ (C_below HR1048_0.out HB.out)); (case side2 => exact HC1048_0.out); rintro e w' ⟨rfl, ⟨nd, rfl⟩⟩; refine ⟨_, rfl, ?_⟩) | ((with_reducible refine gate_callee (f := 74) rfl ?_); refine gl_ (some 56) Tryd.func74 #[.int .i64 a0, .int .u64 x11_3, .int .u64 t1049] ?_; (with_reducible refine (attestorref01_Mul.calls a0 x11_3 t1049 t1050 _ A15.out).mono ?_); rintro e w' ⟨rfl, ⟨nd, rfl⟩⟩; refine ⟨_, rfl, ?_⟩; have p1051 : 0 ≤ (x13_3 : Int) := od_; have q1051 : x13_3 < (l2.length : Int) := od_; obtain ⟨ad1051, A1051_0, c1051_0, e1051, hx1051_0, hl1051_0, hi1051_0⟩ := at_L3 HR2.out x13_3 p1051 q1051; cases e1051; replace hx1051_0 := (HB.out.cell (World.block_lt_of_cell? w _ hx1051_0)).trans hx1051_0; have HR1051_0 := ak hi1051_0; have HC1051_0 := ak hl1051_0; clear hi1051_0 hl1051_0; replace p1051 := eq_true p1051; replace q1051 := eq_true q1051) | ((with_reducible refine gate_callee (f := 75) rfl ?_); refine gl_ (some 66) Tryd.func75 #[.int .i64 a0, .slice A1051_0 (rd_L3 l2 x13_3).length c1051_0, .int .u64 x9_1, .int .u64 x10_2] ?_; (with_reducible refine (attestorref11_Value.calls k3 a0 _ _ (rd_L3 l2 x13_3) x9_1 x10_2 t1052 _ ?side1 ?side2 A17.out).mono ?_); (case side1 => exact (C_below HR1051_0.out (bU_ HB.out))); (case side2 => exact HC1051_0.out); rintro e w' ⟨rfl, ⟨nd, rfl⟩⟩; refine ⟨_, rfl, ?_⟩) | ((with_reducible refine gate_callee (f := 74) rfl ?_); refine gl_ (some 67) Tryd.func74 #[.int .i64 a0, .int .u64 x12_3, .int .u64 t1052] ?_; (with_reducible refine (attestorref01_Mul.calls a0 x12_3 t1052 t1053 _ A18.out).mono ?_); rintro e w' ⟨rfl, ⟨nd, rfl⟩⟩; refine ⟨_, rfl, ?_⟩))
            go_roundg k3
            case measure => have := HK1.out; have := HK2.out; have := HK3.out; omega
            case rel => exact ⟨(t1050), (t1053), (wrap64 (x13_3 + 1)), gb_, gb_, gb_, H', ⟨by have := HK1.out; have := HK2.out; have := HK3.out; omega⟩, ⟨bU_ HB.out⟩⟩
           rw [if_neg c12] at H
           have c12b0 := decide_eq_false c12
           clear c12
           by_cases c19 : x11_3 = x12_3
           ·rw [if_pos c19] at H
            have c19b0 := beq_iff_eq.mpr c19
            have c19b1 := bne_eq_false_iff_eq.mpr c19
            clear c19
            have H' := ak H
            clear H
            go_wp2
            go_roundg k3
            case measure => have := HK1.out; have := HK2.out; have := HK3.out; omega
            case rel => exact ⟨(wrap64 (x8_2 + 1)), (IntKind.u64.wrap (x10_2 + 1)), gb_, gb_, H', ⟨by have := HK1.out; have := HK2.out; have := HK3.out; omega⟩, ⟨bU_ HB.out⟩⟩
           rw [if_neg c19] at H
           have c19b0 := beq_eq_false_iff_ne.mpr c19
           have c19b1 := bne_iff_ne.mpr c19
           have H' := ak H
           clear H
           go_wp2
           go_roundg k3
           case measure => have := HK1.out; have := HK2.out; have := HK3.out; omega
           case rel => exact ⟨(x8_2), (IntKind.u64.wrap (x10_2 + 1)), gb_, gb_, H', ⟨by have := HK1.out; have := HK2.out; have := HK3.out; omega⟩, ⟨bU_ HB.out⟩⟩
        rw [if_neg c11] at H
        have c11b0 := decide_eq_false c11
        clear c11
        have H' := ak H
        clear H
        go_wp2_with (first | ((with_reducible refine gate_callee (f := 54) rfl ?_); refine gl_ (some 36) Tryd.func54 #[.int .i64 a0] ?_; (with_reducible refine (attestorref01_P.calls a0 t1047 _ A10.out).mono ?_); rintro e w' ⟨rfl, ⟨nd, rfl⟩⟩; refine ⟨_, rfl, ?_⟩))
        go_roundg k2
        case measure => have := HK1.out; have := HK2.out; omega
        case rel => exact ⟨(x8_2), (IntKind.u64.wrap (x9_1 + 1)), gb_, gb_, H', ⟨by have := HK1.out; have := HK2.out; omega⟩, ⟨bU_ HB.out⟩⟩
     rw [if_neg c9] at H
     have c9b0 := decide_eq_false c9
     clear c9
     simp only [Option.some.injEq, Prod.mk.injEq] at H
     obtain ⟨rfl, rfl⟩ := H
     go_wp2_with (first | ((with_reducible refine gate_callee (f := 54) rfl ?_); refine gl_ (some 30) Tryd.func54 #[.int .i64 a0] ?_; (with_reducible refine (attestorref01_P.calls a0 t1046 _ A8.out).mono ?_); rintro e w' ⟨rfl, ⟨nd, rfl⟩⟩; refine ⟨_, rfl, ?_⟩))
     go_ret2
     exact ⟨eW_, bU_ HB.out⟩
  rw [if_neg c6] at H
  have c6b0 := beq_eq_false_iff_ne.mpr c6
  have c6b1 := bne_iff_ne.mpr c6
  revert H
  refine bd_ fun t1045 A20 H => ?_
  simp only [Option.some.injEq, Prod.mk.injEq] at H
  obtain ⟨rfl, rfl⟩ := H
  go_enter Tryd.func30, Tryd.ntmps30
  go_wp2_with (first | ((with_reducible refine gate_callee (f := 73) rfl ?_); refine gl_ (some 22) Tryd.func73 #[.int .i64 a0, .slice A1 l1.length c1, .slice A2 l2.length c2] ?_; (with_reducible refine (attestorref11_tuples.calls k a0 (fun k_ => k_ < w.heap.size) _ _ l1 (fun k_ => k_ < w.heap.size) _ _ l2 t1044 _ ?side1 ?side2 A5.out).mono ?_); (case side1 => exact V_mk HC1.out (F_below (C_F (Kd.heap_slice 48 (heap_int .u64)) HR1.out) (bU_ HB.out))); (case side2 => exact V_mk HC2.out (F_below (C_F (Kd.heap_slice 48 (heap_int .u64)) HR2.out) (bU_ HB.out))); rintro e w21 ⟨rfl, hb⟩; refine ⟨_, rfl, ?_⟩; refine nx1_ (below_step (bU_ HB.out) hb) ?_; clear HB; intro HB; clear hb) | ((with_reducible refine gate_callee (f := 73) rfl ?_); refine gl_ (some 27) Tryd.func73 #[.int .i64 a0, .slice A1 l1.length c1, .slice A2 l2.length c2] ?_; (with_reducible refine (attestorref11_tuples.calls k a0 (fun k_ => k_ < w.heap.size) _ _ l1 (fun k_ => k_ < w.heap.size) _ _ l2 t1045 _ ?side1 ?side2 A20.out).mono ?_); (case side1 => exact V_mk HC1.out (F_below (C_F (Kd.heap_slice 48 (heap_int .u64)) HR1.out) (bU_ HB.out))); (case side2 => exact V_mk HC2.out (F_below (C_F (Kd.heap_slice 48 (heap_int .u64)) HR2.out) (bU_ HB.out))); rintro e w22 ⟨rfl, hb⟩; refine ⟨_, rfl, ?_⟩; refine nx1_ (below_step (bU_ HB.out) hb) ?_; clear HB; intro HB; clear hb))
  go_ret2
  exact ⟨eW_, bU_ HB.out⟩
 rw [if_neg c4] at H
 have c4b0 := beq_eq_false_iff_ne.mpr c4
 have c4b1 := bne_iff_ne.mpr c4
 have c4b2 : (l1.length == l2.length) = false := by first | simpa using c4 | (simp at c4 ⊢; omega)
 simp only [Option.some.injEq, Prod.mk.injEq] at H
 obtain ⟨rfl, rfl⟩ := H
 go_enter Tryd.func30, Tryd.ntmps30
 go_wp2
 go_ret2
 exact ⟨eW_, bU_ HB.out⟩

def attestorref01_Pow.f : Nat → Int → Int → Int → Option (Int)
 | 0, _, _, _ => none
 | k + 1, a0, a1, a2 => (attestorref01_Valid.f a0).bind fun t1054 => (if t1054 = true then (if a2 = 0 then (some 1) else ((attestorref01_Pow.f k a0 a1 (IntKind.u64.wrap (Int.tdiv a2 2))).bind fun t1055 => ((attestorref01_Mul.f a0 t1055 t1055).bind fun t1056 => (if (Int.tmod a2 2) = 1 then ((attestorref01_Mul.f a0 t1056 a1).bind fun t1057 => (some t1057)) else (some t1056))))) else (some 0))
set_option maxHeartbeats 8000000 in
set_option maxRecDepth 100000 in
theorem attestorref01_Pow.calls (k : Nat) : ∀ (a0 : Int) (a1 : Int) (a2 : Int) (r : Int) (w : World) (h : attestorref01_Pow.f k a0 a1 a2 = some r),
  Calls Tryd.prog 113 #[.int .i64 a0, .int .u64 a1, .int .u64 a2] w fun e w' => e = .returned (.int .u64 r) ∧ Drawn0 w w' := by
 induction k using Nat.strongRecOn with
 | _ k ih =>
 intro a0 a1 a2 r w h
 cases k with
 | zero => exact absurd h (by simp [attestorref01_Pow.f])
 | succ k =>
 simp only [attestorref01_Pow.f] at h
 have H : ((attestorref01_Valid.f a0).bind fun t1054 => (if t1054 = true then (if a2 = 0 then (some 1) else ((attestorref01_Pow.f k a0 a1 (IntKind.u64.wrap (Int.tdiv a2 2))).bind fun t1055 => ((attestorref01_Mul.f a0 t1055 t1055).bind fun t1056 => (if (Int.tmod a2 2) = 1 then ((attestorref01_Mul.f a0 t1056 a1).bind fun t1057 => (some t1057)) else (some t1056))))) else (some 0))) = some r := h
 clear h
 revert H
 refine bd_ fun t1054 A4 H => ?_
 by_cases c5 : t1054 = true
 ·subst c5
  rw [if_pos rfl] at H
  by_cases c6 : a2 = 0
  ·rw [if_pos c6] at H
   have c6b0 := beq_iff_eq.mpr c6
   have c6b1 := bne_eq_false_iff_eq.mpr c6
   clear c6
   obtain rfl := Option.some.inj H
   go_enter Tryd.func113, Tryd.ntmps113
   go_wp2_with (first | ((with_reducible refine gate_callee (f := 51) rfl ?_); refine gl_ (some 9) Tryd.func51 #[.int .i64 a0] ?_; (with_reducible refine (attestorref01_Valid.calls a0 true _ A4.out).mono ?_); rintro e w' ⟨rfl, ⟨nd, rfl⟩⟩; refine ⟨_, rfl, ?_⟩))
   go_ret
   exact ⟨by first | rfl | (simp; done) | (simp [*]; done), by repeat (first | exact Drawn0.refl _ | apply Drawn0.step)⟩
  rw [if_neg c6] at H
  have c6b0 := beq_eq_false_iff_ne.mpr c6
  have c6b1 := bne_iff_ne.mpr c6
  revert H
  refine bd_ fun t1055 A7 H => ?_
  revert H
  refine bd_ fun t1056 A8 H => ?_
  by_cases c9 : (Int.tmod a2 2) = 1
  ·rw [if_pos c9] at H
   have c9b0 := beq_iff_eq.mpr c9
   have c9b1 := bne_eq_false_iff_eq.mpr c9
   clear c9
   revert H
   refine bd_ fun t1057 A10 H => ?_
   obtain rfl := Option.some.inj H
   go_enter Tryd.func113, Tryd.ntmps113
   go_wp2_with (first | ((with_reducible refine gate_callee (f := 51) rfl ?_); refine gl_ (some 9) Tryd.func51 #[.int .i64 a0] ?_; (with_reducible refine (attestorref01_Valid.calls a0 true _ A4.out).mono ?_); rintro e w' ⟨rfl, ⟨nd, rfl⟩⟩; refine ⟨_, rfl, ?_⟩) | ((with_reducible refine gate_callee (f := 113) rfl ?_); refine gl_ (some 17) Tryd.func113 #[.int .i64 a0, .int .u64 a1, .int .u64 (IntKind.u64.wrap (Int.tdiv a2 2))] ?_; (with_reducible refine (ih k (by omega) a0 a1 (IntKind.u64.wrap (Int.tdiv a2 2)) t1055 _ A7.out).mono ?_); rintro e w' ⟨rfl, ⟨nd, rfl⟩⟩; refine ⟨_, rfl, ?_⟩) | ((with_reducible refine gate_callee (f := 74) rfl ?_); refine gl_ (some 21) Tryd.func74 #[.int .i64 a0, .int .u64 t1055, .int .u64 t1055] ?_; (with_reducible refine (attestorref01_Mul.calls a0 t1055 t1055 t1056 _ A8.out).mono ?_); rintro e w' ⟨rfl, ⟨nd, rfl⟩⟩; refine ⟨_, rfl, ?_⟩) | ((with_reducible refine gate_callee (f := 74) rfl ?_); refine gl_ (some 28) Tryd.func74 #[.int .i64 a0, .int .u64 t1056, .int .u64 a1] ?_; (with_reducible refine (attestorref01_Mul.calls a0 t1056 a1 t1057 _ A10.out).mono ?_); rintro e w' ⟨rfl, ⟨nd, rfl⟩⟩; refine ⟨_, rfl, ?_⟩))
   go_ret
   exact ⟨by first | rfl | (simp; done) | (simp [*]; done), by repeat (first | exact Drawn0.refl _ | apply Drawn0.step)⟩
  rw [if_neg c9] at H
  have c9b0 := beq_eq_false_iff_ne.mpr c9
  have c9b1 := bne_iff_ne.mpr c9
  obtain rfl := Option.some.inj H
  go_enter Tryd.func113, Tryd.ntmps113
  go_wp2_with (first | ((with_reducible refine gate_callee (f := 51) rfl ?_); refine gl_ (some 9) Tryd.func51 #[.int .i64 a0] ?_; (with_reducible refine (attestorref01_Valid.calls a0 true _ A4.out).mono ?_); rintro e w' ⟨rfl, ⟨nd, rfl⟩⟩; refine ⟨_, rfl, ?_⟩) | ((with_reducible refine gate_callee (f := 113) rfl ?_); refine gl_ (some 17) Tryd.func113 #[.int .i64 a0, .int .u64 a1, .int .u64 (IntKind.u64.wrap (Int.tdiv a2 2))] ?_; (with_reducible refine (ih k (by omega) a0 a1 (IntKind.u64.wrap (Int.tdiv a2 2)) t1055 _ A7.out).mono ?_); rintro e w' ⟨rfl, ⟨nd, rfl⟩⟩; refine ⟨_, rfl, ?_⟩) | ((with_reducible refine gate_callee (f := 74) rfl ?_); refine gl_ (some 21) Tryd.func74 #[.int .i64 a0, .int .u64 t1055, .int .u64 t1055] ?_; (with_reducible refine (attestorref01_Mul.calls a0 t1055 t1055 t1056 _ A8.out).mono ?_); rintro e w' ⟨rfl, ⟨nd, rfl⟩⟩; refine ⟨_, rfl, ?_⟩))
  go_ret
  exact ⟨by first | rfl | (simp; done) | (simp [*]; done), by repeat (first | exact Drawn0.refl _ | apply Drawn0.step)⟩
 replace c5 := Bool.eq_false_iff.mpr c5
 subst c5
 rw [if_neg (show ¬ (false = true) by decide)] at H
 obtain rfl := Option.some.inj H
 go_enter Tryd.func113, Tryd.ntmps113
 go_wp2_with (first | ((with_reducible refine gate_callee (f := 51) rfl ?_); refine gl_ (some 9) Tryd.func51 #[.int .i64 a0] ?_; (with_reducible refine (attestorref01_Valid.calls a0 false _ A4.out).mono ?_); rintro e w' ⟨rfl, ⟨nd, rfl⟩⟩; refine ⟨_, rfl, ?_⟩))
 go_ret
 exact ⟨by first | rfl | (simp; done) | (simp [*]; done), by repeat (first | exact Drawn0.refl _ | apply Drawn0.step)⟩

def attestorref01_Inv.f (k : Nat) (a0 : Int) (a1 : Int) : Option (Int) := (attestorref01_Valid.f a0).bind fun t1058 => (if t1058 = true then ((attestorref01_P.f a0).bind fun t1059 => ((attestorref01_Pow.f k a0 a1 (IntKind.u64.wrap (t1059 - 2))).bind fun t1060 => (some t1060))) else (some 0))
set_option maxHeartbeats 8000000 in
set_option maxRecDepth 100000 in
theorem attestorref01_Inv.calls (k : Nat) (a0 : Int) (a1 : Int) (r : Int) (w : World) (h : attestorref01_Inv.f k a0 a1 = some r) :
  Calls Tryd.prog 77 #[.int .i64 a0, .int .u64 a1] w fun e w' => e = .returned (.int .u64 r) ∧ Drawn0 w w' := by
 have H := h
 clear h
 unfold attestorref01_Inv.f at H
 revert H
 refine bd_ fun t1058 A3 H => ?_
 by_cases c4 : t1058 = true
 ·subst c4
  rw [if_pos rfl] at H
  revert H
  refine bd_ fun t1059 A5 H => ?_
  revert H
  refine bd_ fun t1060 A6 H => ?_
  obtain rfl := Option.some.inj H
  go_enter Tryd.func77, Tryd.ntmps77
  go_wp2_with (first | ((with_reducible refine gate_callee (f := 51) rfl ?_); refine gl_ (some 6) Tryd.func51 #[.int .i64 a0] ?_; (with_reducible refine (attestorref01_Valid.calls a0 true _ A3.out).mono ?_); rintro e w' ⟨rfl, ⟨nd, rfl⟩⟩; refine ⟨_, rfl, ?_⟩) | ((with_reducible refine gate_callee (f := 54) rfl ?_); refine gl_ (some 11) Tryd.func54 #[.int .i64 a0] ?_; (with_reducible refine (attestorref01_P.calls a0 t1059 _ A5.out).mono ?_); rintro e w' ⟨rfl, ⟨nd, rfl⟩⟩; refine ⟨_, rfl, ?_⟩) | ((with_reducible refine gate_callee (f := 113) rfl ?_); refine gl_ (some 13) Tryd.func113 #[.int .i64 a0, .int .u64 a1, .int .u64 (IntKind.u64.wrap (t1059 - 2))] ?_; (with_reducible refine (attestorref01_Pow.calls k a0 a1 (IntKind.u64.wrap (t1059 - 2)) t1060 _ A6.out).mono ?_); rintro e w' ⟨rfl, ⟨nd, rfl⟩⟩; refine ⟨_, rfl, ?_⟩))
  go_ret
  exact ⟨by first | rfl | (simp; done) | (simp [*]; done), by repeat (first | exact Drawn0.refl _ | apply Drawn0.step)⟩
 replace c4 := Bool.eq_false_iff.mpr c4
 subst c4
 rw [if_neg (show ¬ (false = true) by decide)] at H
 obtain rfl := Option.some.inj H
 go_enter Tryd.func77, Tryd.ntmps77
 go_wp2_with (first | ((with_reducible refine gate_callee (f := 51) rfl ?_); refine gl_ (some 6) Tryd.func51 #[.int .i64 a0] ?_; (with_reducible refine (attestorref01_Valid.calls a0 false _ A3.out).mono ?_); rintro e w' ⟨rfl, ⟨nd, rfl⟩⟩; refine ⟨_, rfl, ?_⟩))
 go_ret
 exact ⟨by first | rfl | (simp; done) | (simp [*]; done), by repeat (first | exact Drawn0.refl _ | apply Drawn0.step)⟩

def attestorref01_Div.f (k : Nat) (a0 : Int) (a1 : Int) (a2 : Int) : Option (Int) := (attestorref01_Inv.f k a0 a2).bind fun t1061 => ((attestorref01_Mul.f a0 a1 t1061).bind fun t1062 => (some t1062))
set_option maxHeartbeats 8000000 in
set_option maxRecDepth 100000 in
theorem attestorref01_Div.calls (k : Nat) (a0 : Int) (a1 : Int) (a2 : Int) (r : Int) (w : World) (h : attestorref01_Div.f k a0 a1 a2 = some r) :
  Calls Tryd.prog 78 #[.int .i64 a0, .int .u64 a1, .int .u64 a2] w fun e w' => e = .returned (.int .u64 r) ∧ Drawn0 w w' := by
 have H := h
 clear h
 unfold attestorref01_Div.f at H
 revert H
 refine bd_ fun t1061 A4 H => ?_
 revert H
 refine bd_ fun t1062 A5 H => ?_
 obtain rfl := Option.some.inj H
 go_enter Tryd.func78, Tryd.ntmps78
 go_wp2_with (first | ((with_reducible refine gate_callee (f := 77) rfl ?_); refine gl_ (some 11) Tryd.func77 #[.int .i64 a0, .int .u64 a2] ?_; (with_reducible refine (attestorref01_Inv.calls k a0 a2 t1061 _ A4.out).mono ?_); rintro e w' ⟨rfl, ⟨nd, rfl⟩⟩; refine ⟨_, rfl, ?_⟩) | ((with_reducible refine gate_callee (f := 74) rfl ?_); refine gl_ (some 12) Tryd.func74 #[.int .i64 a0, .int .u64 a1, .int .u64 t1061] ?_; (with_reducible refine (attestorref01_Mul.calls a0 a1 t1061 t1062 _ A5.out).mono ?_); rintro e w' ⟨rfl, ⟨nd, rfl⟩⟩; refine ⟨_, rfl, ?_⟩))
 go_ret
 exact ⟨by first | rfl | (simp; done) | (simp [*]; done), by repeat (first | exact Drawn0.refl _ | apply Drawn0.step)⟩

mutual
def attestorref11_Found.l0 : Nat → Int → List (List Int) → List (List Int) → List Int → Int → Int → Option (Int × Int)
 | 0, _, _, _, _, _, _ => none
 | k + 1, x0, x1, x2, x3, x10, x11 => (attestorref01_P.f x0).bind fun t1065 => (if x11 < t1065 then (attestorref11_Found.l1 k x0 x1 x2 x3 x10 x11 0) else (some (x10, 0)))
def attestorref11_Found.l1 : Nat → Int → List (List Int) → List (List Int) → List Int → Int → Int → Int → Option (Int × Int)
 | 0, _, _, _, _, _, _, _ => none
 | k + 1, x0, x1, x2, x3, x10, x11, x12 => (attestorref01_P.f x0).bind fun t1066 => (if x12 < t1066 then (attestorref11_Found.l2 k x0 x1 x2 x3 x10 x11 x12 0 0 true 0) else (attestorref11_Found.l0 k x0 x1 x2 x3 x10 (IntKind.u64.wrap (x11 + 1))))
def attestorref11_Found.l2 : Nat → Int → List (List Int) → List (List Int) → List Int → Int → Int → Int → Int → Int → Bool → Int → Option (Int × Int)
 | 0, _, _, _, _, _, _, _, _, _, _, _ => none
 | k + 1, x0, x1, x2, x3, x10, x11, x12, x13, x14, x15, x16 => if x16 < (x1.length : Int) then (if 0 ≤ x16 then ((attestorref11_Value.f k x0 (rd_L3 x1 x16) x11 x12).bind fun t1068 => (if x15 = true then ((attestorref01_Inv.f k x0 t1068).bind fun t1069 => ((attestorref01_Add.f x0 x13 t1069).bind fun t1070 => (attestorref11_Found.l2 k x0 x1 x2 x3 x10 x11 x12 t1070 x14 (t1068 != 0) (wrap64 (x16 + 1))))) else ((attestorref01_Inv.f k x0 t1068).bind fun t1071 => ((attestorref01_Add.f x0 x13 t1071).bind fun t1072 => (attestorref11_Found.l2 k x0 x1 x2 x3 x10 x11 x12 t1072 x14 false (wrap64 (x16 + 1))))))) else (none)) else (attestorref11_Found.l3 k x0 x1 x2 x3 x10 x11 x12 x13 x14 x15 0)
def attestorref11_Found.l3 : Nat → Int → List (List Int) → List (List Int) → List Int → Int → Int → Int → Int → Int → Bool → Int → Option (Int × Int)
 | 0, _, _, _, _, _, _, _, _, _, _, _ => none
 | k + 1, x0, x1, x2, x3, x10, x11, x12, x13, x14, x15, x18 => if x18 < (x2.length : Int) then (if 0 ≤ x18 then ((attestorref11_Value.f k x0 (rd_L3 x2 x18) x11 x12).bind fun t1074 => (if x15 = true then (if x18 < (x3.length : Int) then ((attestorref01_Div.f k x0 (rd x3 x18) t1074).bind fun t1076 => ((attestorref01_Add.f x0 x14 t1076).bind fun t1077 => (attestorref11_Found.l3 k x0 x1 x2 x3 x10 x11 x12 x13 t1077 (t1074 != 0) (wrap64 (x18 + 1))))) else (none)) else (if x18 < (x3.length : Int) then ((attestorref01_Div.f k x0 (rd x3 x18) t1074).bind fun t1079 => ((attestorref01_Add.f x0 x14 t1079).bind fun t1080 => (attestorref11_Found.l3 k x0 x1 x2 x3 x10 x11 x12 x13 t1080 false (wrap64 (x18 + 1))))) else (none)))) else (none)) else (if x15 = true then (if x13 = x14 then (attestorref11_Found.l1 k x0 x1 x2 x3 (wrap64 (x10 + 1)) x11 (IntKind.u64.wrap (x12 + 1))) else (attestorref11_Found.l1 k x0 x1 x2 x3 x10 x11 (IntKind.u64.wrap (x12 + 1)))) else (attestorref11_Found.l1 k x0 x1 x2 x3 x10 x11 (IntKind.u64.wrap (x12 + 1))))
end
def attestorref11_Found.f (k : Nat) (a0 : Int) (l1 : List (List Int)) (l2 : List (List Int)) (l3 : List Int) : Option (Int × Int) := if (l2.length : Int) = (l3.length : Int) then ((attestorref11_tuples.f k a0 l1 l2).bind fun t1063 => (if t1063 = 0 then (attestorref11_Found.l0 k a0 l1 l2 l3 0 0) else ((attestorref11_tuples.f k a0 l1 l2).bind fun t1064 => (some (0, t1064))))) else (some (0, 1))
set_option maxHeartbeats 8000000 in
set_option maxRecDepth 100000 in
theorem attestorref11_Found.calls (k : Nat) (a0 : Int) (A1 : Option Addr) (c1 : Nat) (l1 : List (List Int)) (A2 : Option Addr) (c2 : Nat) (l2 : List (List Int)) (A3 : Option Addr) (c3 : Nat) (l3 : List Int) (r1 : Int) (r2 : Int) (w : World) (hr1 : Kd.C (Kd.slice 48 (Kd.int .u64)) w A1 l1.length l1) (hc1 : l1.length ≤ c1) (hr2 : Kd.C (Kd.slice 48 (Kd.int .u64)) w A2 l2.length l2) (hc2 : l2.length ≤ c2) (hr3 : Kd.C (Kd.int .u64) w A3 l3.length l3) (hc3 : l3.length ≤ c3) (h : attestorref11_Found.f k a0 l1 l2 l3 = some (r1, r2)) :
  Calls Tryd.prog 31 #[.int .i64 a0, .slice A1 l1.length c1, .slice A2 l2.length c2, .slice A3 l3.length c3] w fun e w' => e = .returned (.tuple #[.int .i64 r1, .int .i64 r2]) ∧ Below w.heap.size w w' := by
 have HR1 := ak hr1
 have HC1 := ak hc1
 clear hr1 hc1
 have HR2 := ak hr2
 have HC2 := ak hc2
 clear hr2 hc2
 have HR3 := ak hr3
 have HC3 := ak hc3
 clear hr3 hc3
 have HB := ak (Below.refl w.heap.size w)
 have H := h
 clear h
 unfold attestorref11_Found.f at H
 by_cases c5 : (l2.length : Int) = (l3.length : Int)
 ·rw [if_pos c5] at H
  have c5b0 := beq_iff_eq.mpr c5
  have c5b1 := bne_eq_false_iff_eq.mpr c5
  have c5b2 : (l2.length == l3.length) = true := by first | simpa using c5 | (simp at c5 ⊢; omega)
  clear c5
  revert H
  refine bd_ fun t1063 A6 H => ?_
  by_cases c7 : t1063 = 0
  ·rw [if_pos c7] at H
   have c7b0 := beq_iff_eq.mpr c7
   have c7b1 := bne_eq_false_iff_eq.mpr c7
   clear c7
   have H' := ak H
   clear H
   go_enter Tryd.func31, Tryd.ntmps31
   go_wp2_with (first | ((with_reducible refine gate_callee (f := 73) rfl ?_); refine gl_ (some 28) Tryd.func73 #[.int .i64 a0, .slice A1 l1.length c1, .slice A2 l2.length c2] ?_; (with_reducible refine (attestorref11_tuples.calls k a0 (fun k_ => k_ < w.heap.size) _ _ l1 (fun k_ => k_ < w.heap.size) _ _ l2 t1063 _ ?side1 ?side2 A6.out).mono ?_); (case side1 => exact V_mk HC1.out (F_below (C_F (Kd.heap_slice 48 (heap_int .u64)) HR1.out) (bU_ HB.out))); (case side2 => exact V_mk HC2.out (F_below (C_F (Kd.heap_slice 48 (heap_int .u64)) HR2.out) (bU_ HB.out))); rintro e w8 ⟨rfl, hb⟩; refine ⟨_, rfl, ?_⟩; refine nx1_ (below_step (bU_ HB.out) hb) ?_; clear HB; intro HB; clear hb))
   go_loopg [10, 11] k (fun kq v10 v11 w' => ∃ (x10_1 : Int) (x11_1 : Int), v10 = .int .i64 x10_1 ∧ v11 = .int .u64 x11_1 ∧ Aside0 (attestorref11_Found.l0 kq a0 l1 l2 l3 x10_1 x11_1 = some (r1, r2)) ∧ Aside0 (kq ≤ k) ∧ Aside0 (Below w.heap.size w w'))
   case atStart => exact ⟨(0), (0), gb_, gb_, H', ⟨Nat.le_refl _⟩, ⟨bU_ HB.out⟩⟩
   case round =>
    clear H'
    (try clear c1); (try clear c2); (try clear p2); (try clear c3); (try clear c5); (try clear c5b0); (try clear c5b1); (try clear c5b2); (try clear c7); (try clear c7b0); (try clear c7b1)
    obtain ⟨x10_1, x11_1, rfl, rfl, HA, HK1, HB⟩ := hrel
    cases gk with
    | zero => exact absurd HA.out (by simp [attestorref11_Found.l0])
    | succ k1 =>
     have H := HA.out
     clear HA
     simp only [attestorref11_Found.l0] at H
     revert H
     refine bd_ fun t1065 A9 H => ?_
     by_cases c10 : x11_1 < t1065
     ·rw [if_pos c10] at H
      have c10b0 := decide_eq_true c10
      clear c10
      have H' := ak H
      clear H
      go_wp2_with (first | ((with_reducible refine gate_callee (f := 54) rfl ?_); refine gl_ (some 36) Tryd.func54 #[.int .i64 a0] ?_; (with_reducible refine (attestorref01_P.calls a0 t1065 _ A9.out).mono ?_); rintro e w' ⟨rfl, ⟨nd, rfl⟩⟩; refine ⟨_, rfl, ?_⟩))
      go_loopg [10, 12] k1 (fun kq v10 v12 w' => ∃ (x10_2 : Int) (x12_2 : Int), v10 = .int .i64 x10_2 ∧ v12 = .int .u64 x12_2 ∧ Aside0 (attestorref11_Found.l1 kq a0 l1 l2 l3 x10_2 x11_1 x12_2 = some (r1, r2)) ∧ Aside0 (kq ≤ k1) ∧ Aside0 (Below w.heap.size w w'))
      case atStart => exact ⟨(x10_1), (0), gb_, gb_, H', ⟨Nat.le_refl _⟩, ⟨bU_ HB.out⟩⟩
      case round =>
       clear H'
       (try clear c1); (try clear c2); (try clear p2); (try clear c3); (try clear c5); (try clear c5b0); (try clear c5b1); (try clear c5b2); (try clear c7); (try clear c7b0); (try clear c7b1); (try clear c10); (try clear c10b0)
       obtain ⟨x10_2, x12_2, rfl, rfl, HA, HK2, HB⟩ := hrel
       cases gk with
       | zero => exact absurd HA.out (by simp [attestorref11_Found.l1])
       | succ k2 =>
        have H := HA.out
        clear HA
        simp only [attestorref11_Found.l1] at H
        revert H
        refine bd_ fun t1066 A11 H => ?_
        by_cases c12 : x12_2 < t1066
        ·rw [if_pos c12] at H
         have c12b0 := decide_eq_true c12
         clear c12
         have H' := ak H
         clear H
         go_wp2_with (first | ((with_reducible refine gate_callee (f := 54) rfl ?_); refine gl_ (some 42) Tryd.func54 #[.int .i64 a0] ?_; (with_reducible refine (attestorref01_P.calls a0 t1066 _ A11.out).mono ?_); rintro e w' ⟨rfl, ⟨nd, rfl⟩⟩; refine ⟨_, rfl, ?_⟩))
         go_loopg [13, 15, 16] k2 (fun kq v13 v15 v16 w' => ∃ (x13_3 : Int) (x15_3 : Bool) (x16_3 : Int), v13 = .int .u64 x13_3 ∧ v15 = .bool x15_3 ∧ v16 = .int .i64 x16_3 ∧ Aside0 (attestorref11_Found.l2 kq a0 l1 l2 l3 x10_2 x11_1 x12_2 x13_3 0 x15_3 x16_3 = some (r1, r2)) ∧ Aside0 (kq ≤ k2) ∧ Aside0 (Below w.heap.size w w'))
         case atStart => exact ⟨(0), (true), (0), gb_, gb_, gb_, H', ⟨Nat.le_refl _⟩, ⟨bU_ HB.out⟩⟩
         case round =>
          clear H'
          (try clear c1); (try clear c2); (try clear p2); (try clear c3); (try clear c5); (try clear c5b0); (try clear c5b1); (try clear c5b2); (try clear c7); (try clear c7b0); (try clear c7b1); (try clear c10); (try clear c10b0); (try clear c12); (try clear c12b0)
          obtain ⟨x13_3, x15_3, x16_3, rfl, rfl, rfl, HA, HK3, HB⟩ := hrel
          cases gk with
          | zero => exact absurd HA.out (by simp [attestorref11_Found.l2])
          | succ k3 =>
           have H := HA.out
           clear HA
           simp only [attestorref11_Found.l2] at H
           by_cases c13 : x16_3 < (l1.length : Int)
           ·rw [if_pos c13] at H
            have c13b0 := decide_eq_true c13
            clear c13
            obtain ⟨c14, H⟩ : (0 ≤ x16_3) ∧ _ := it_ H
            have c14b0 := decide_eq_true c14
            clear c14
            revert H
            refine bd_ fun t1068 A15 H => ?_
            by_cases c16 : x15_3 = true
            ·subst c16
             rw [if_pos rfl] at H
             revert H
             refine bd_ fun t1069 A17 H => ?_
             revert H
             refine bd_ fun t1070 A18 H => ?_
             have H' := ak H
             clear H
             have p1067 : 0 ≤ (x16_3 : Int) := od_
             have q1067 : x16_3 < (l1.length : Int) := od_
             obtain ⟨ad1067, A1067_0, c1067_0, e1067, hx1067_0, hl1067_0, hi1067_0⟩ := at_L3 HR1.out x16_3 p1067 q1067
             cases e1067
             replace hx1067_0 := (HB.out.cell (World.block_lt_of_cell? w _ hx1067_0)).trans hx1067_0
             have HR1067_0 := ak hi1067_0
             have HC1067_0 := ak hl1067_0
             clear hi1067_0 hl1067_0
             replace p1067 := eq_true p1067
             replace q1067 := eq_true q1067
             go_wp2_with (first | ((with_reducible refine gate_callee (f := 75) rfl ?_); refine gl_ (some 59) Tryd.func75 #[.int .i64 a0, .slice A1067_0 (rd_L3 l1 x16_3).length c1067_0, .int .u64 x11_1, .int .u64 x12_2] ?_; (with_reducible refine (attestorref11_Value.calls k3 a0 _ _ (rd_L3 l1 x16_3) x11_1 x12_2 t1068 _ ?side1 ?side2 A15.out).mono ?_); (case side1 => exact cU_ (C_below HR1067_0.out HB.out)); (case side2 => exact HC1067_0.out); rintro e w' ⟨rfl, ⟨nd, rfl⟩⟩; refine ⟨_, rfl, ?_⟩) | ((with_reducible refine gate_callee (f := 77) rfl ?_); refine gl_ (some 69) Tryd.func77 #[.int .i64 a0, .int .u64 t1068] ?_; (with_reducible refine (attestorref01_Inv.calls k3 a0 t1068 t1069 _ A17.out).mono ?_); rintro e w' ⟨rfl, ⟨nd, rfl⟩⟩; refine ⟨_, rfl, ?_⟩) | ((with_reducible refine gate_callee (f := 76) rfl ?_); refine gl_ (some 70) Tryd.func76 #[.int .i64 a0, .int .u64 x13_3, .int .u64 t1069] ?_; (with_reducible refine (attestorref01_Add.calls a0 x13_3 t1069 t1070 _ A18.out).mono ?_); rintro e w' ⟨rfl, ⟨nd, rfl⟩⟩; refine ⟨_, rfl, ?_⟩))
             go_roundg k3
             case measure => have := HK1.out; have := HK2.out; have := HK3.out; omega
             case rel => exact ⟨(t1070), ((t1068 != 0)), (wrap64 (x16_3 + 1)), gb_, gb_, gb_, H', ⟨by have := HK1.out; have := HK2.out; have := HK3.out; omega⟩, ⟨bU_ HB.out⟩⟩
            replace c16 := Bool.eq_false_iff.mpr c16
            subst c16
            rw [if_neg (show ¬ (false = true) by decide)] at H
            revert H
            refine bd_ fun t1071 A19 H => ?_
            revert H
            refine bd_ fun t1072 A20 H => ?_
            have H' := ak H
            clear H
            have p1067 : 0 ≤ (x16_3 : Int) := od_
            have q1067 : x16_3 < (l1.length : Int) := od_
            obtain ⟨ad1067, A1067_0, c1067_0, e1067, hx1067_0, hl1067_0, hi1067_0⟩ := at_L3 HR1.out x16_3 p1067 q1067
            cases e1067
            replace hx1067_0 := (HB.out.cell (World.block_lt_of_cell? w _ hx1067_0)).trans hx1067_0
            have HR1067_0 := ak hi1067_0
            have HC1067_0 := ak hl1067_0
            clear hi1067_0 hl1067_0
            replace p1067 := eq_true p1067
            replace q1067 := eq_true q1067
            go_wp2_with (first | ((with_reducible refine gate_callee (f := 75) rfl ?_); refine gl_ (some 59) Tryd.func75 #[.int .i64 a0, .slice A1067_0 (rd_L3 l1 x16_3).length c1067_0, .int .u64 x11_1, .int .u64 x12_2] ?_; (with_reducible refine (attestorref11_Value.calls k3 a0 _ _ (rd_L3 l1 x16_3) x11_1 x12_2 t1068 _ ?side1 ?side2 A15.out).mono ?_); (case side1 => exact cU_ (C_below HR1067_0.out HB.out)); (case side2 => exact HC1067_0.out); rintro e w' ⟨rfl, ⟨nd, rfl⟩⟩; refine ⟨_, rfl, ?_⟩) | ((with_reducible refine gate_callee (f := 77) rfl ?_); refine gl_ (some 69) Tryd.func77 #[.int .i64 a0, .int .u64 t1068] ?_; (with_reducible refine (attestorref01_Inv.calls k3 a0 t1068 t1071 _ A19.out).mono ?_); rintro e w' ⟨rfl, ⟨nd, rfl⟩⟩; refine ⟨_, rfl, ?_⟩) | ((with_reducible refine gate_callee (f := 76) rfl ?_); refine gl_ (some 70) Tryd.func76 #[.int .i64 a0, .int .u64 x13_3, .int .u64 t1071] ?_; (with_reducible refine (attestorref01_Add.calls a0 x13_3 t1071 t1072 _ A20.out).mono ?_); rintro e w' ⟨rfl, ⟨nd, rfl⟩⟩; refine ⟨_, rfl, ?_⟩))
            go_roundg k3
            case measure => have := HK1.out; have := HK2.out; have := HK3.out; omega
            case rel => exact ⟨(t1072), (false), (wrap64 (x16_3 + 1)), gb_, gb_, gb_, H', ⟨by have := HK1.out; have := HK2.out; have := HK3.out; omega⟩, ⟨bU_ HB.out⟩⟩
           rw [if_neg c13] at H
           have c13b0 := decide_eq_false c13
           clear c13
           have H' := ak H
           clear H
           go_wp2
           go_loopg [14, 15, 18] k3 (fun kq v14 v15 v18 w' => ∃ (x14_4 : Int) (x15_4 : Bool) (x18_4 : Int), v14 = .int .u64 x14_4 ∧ v15 = .bool x15_4 ∧ v18 = .int .i64 x18_4 ∧ Aside0 (attestorref11_Found.l3 kq a0 l1 l2 l3 x10_2 x11_1 x12_2 x13_3 x14_4 x15_4 x18_4 = some (r1, r2)) ∧ Aside0 (kq ≤ k3) ∧ Aside0 (Below w.heap.size w w'))
           case atStart => exact ⟨(0), (x15_3), (0), gb_, gb_, gb_, H', ⟨Nat.le_refl _⟩, ⟨bU_ HB.out⟩⟩
           case round =>
            clear H'
            (try clear c1); (try clear p1); (try clear q1); (try clear hx1); (try clear c2); (try clear p2); (try clear c3); (try clear c5); (try clear c5b0); (try clear c5b1); (try clear c5b2); (try clear p6); (try clear c7); (try clear c7b0); (try clear c7b1); (try clear c10); (try clear c10b0); (try clear p10); (try clear q10); (try clear hx10); (try clear c12); (try clear c12b0); (try clear c13); (try clear c13b0); (try clear c14); (try clear c14b0); (try clear c16); (try clear hx1067_0); (try clear p1067); (try clear q1067)
            obtain ⟨x14_4, x15_4, x18_4, rfl, rfl, rfl, HA, HK4, HB⟩ := hrel
            cases gk with
            | zero => exact absurd HA.out (by simp [attestorref11_Found.l3])
            | succ k4 =>
             have H := HA.out
             clear HA
             simp only [attestorref11_Found.l3] at H
             by_cases c21 : x18_4 < (l2.length : Int)
             ·rw [if_pos c21] at H
              have c21b0 := decide_eq_true c21
              clear c21
              obtain ⟨c22, H⟩ : (0 ≤ x18_4) ∧ _ := it_ H
              have c22b0 := decide_eq_true c22
              clear c22
              revert H
              refine bd_ fun t1074 A23 H => ?_
              by_cases c24 : x15_4 = true
              ·subst c24
               rw [if_pos rfl] at H
               obtain ⟨c25, H⟩ : (x18_4 < (l3.length : Int)) ∧ _ := it_ H
               have c25b0 := decide_eq_true c25
               clear c25
               revert H
               refine bd_ fun t1076 A26 H => ?_
               revert H
               refine bd_ fun t1077 A27 H => ?_
               have H' := ak H
               clear H
               have p1073 : 0 ≤ (x18_4 : Int) := od_
               have q1073 : x18_4 < (l2.length : Int) := od_
               obtain ⟨ad1073, A1073_0, c1073_0, e1073, hx1073_0, hl1073_0, hi1073_0⟩ := at_L3 HR2.out x18_4 p1073 q1073
               cases e1073
               replace hx1073_0 := (HB.out.cell (World.block_lt_of_cell? w _ hx1073_0)).trans hx1073_0
               have HR1073_0 := ak hi1073_0
               have HC1073_0 := ak hl1073_0
               clear hi1073_0 hl1073_0
               replace p1073 := eq_true p1073
               replace q1073 := eq_true q1073
               go_wp2_with (first | ((with_reducible refine gate_callee (f := 75) rfl ?_); refine gl_ (some 84) Tryd.func75 #[.int .i64 a0, .slice A1073_0 (rd_L3 l2 x18_4).length c1073_0, .int .u64 x11_1, .int .u64 x12_2] ?_; (with_reducible refine (attestorref11_Value.calls k4 a0 _ _ (rd_L3 l2 x18_4) x11_1 x12_2 t1074 _ ?side1 ?side2 A23.out).mono ?_); (case side1 => exact cU_ (C_below HR1073_0.out HB.out)); (case side2 => exact HC1073_0.out); rintro e w' ⟨rfl, ⟨nd, rfl⟩⟩; refine ⟨_, rfl, ?_⟩; have p1075 : 0 ≤ (x18_4 : Int) := od_; have q1075 : x18_4 < (l3.length : Int) := od_; obtain ⟨ad1075, e1075, hx1075_0⟩ := Kd.at_int HR3.out x18_4 p1075 q1075; cases e1075; replace hx1075_0 := (HB.out.cell (World.block_lt_of_cell? w _ hx1075_0)).trans hx1075_0; replace p1075 := eq_true p1075; replace q1075 := eq_true q1075) | ((with_reducible refine gate_callee (f := 78) rfl ?_); refine gl_ (some 98) Tryd.func78 #[.int .i64 a0, .int .u64 (rd l3 x18_4), .int .u64 t1074] ?_; (with_reducible refine (attestorref01_Div.calls k4 a0 (rd l3 x18_4) t1074 t1076 _ A26.out).mono ?_); rintro e w' ⟨rfl, ⟨nd, rfl⟩⟩; refine ⟨_, rfl, ?_⟩) | ((with_reducible refine gate_callee (f := 76) rfl ?_); refine gl_ (some 99) Tryd.func76 #[.int .i64 a0, .int .u64 x14_4, .int .u64 t1076] ?_; (with_reducible refine (attestorref01_Add.calls a0 x14_4 t1076 t1077 _ A27.out).mono ?_); rintro e w' ⟨rfl, ⟨nd, rfl⟩⟩; refine ⟨_, rfl, ?_⟩))
               go_roundg k4
               case measure => have := HK1.out; have := HK2.out; have := HK3.out; have := HK4.out; omega
               case rel => exact ⟨(t1077), ((t1074 != 0)), (wrap64 (x18_4 + 1)), gb_, gb_, gb_, H', ⟨by have := HK1.out; have := HK2.out; have := HK3.out; have := HK4.out; omega⟩, ⟨bU_ HB.out⟩⟩
              replace c24 := Bool.eq_false_iff.mpr c24
              subst c24
              rw [if_neg (show ¬ (false = true) by decide)] at H
              obtain ⟨c28, H⟩ : (x18_4 < (l3.length : Int)) ∧ _ := it_ H
              have c28b0 := decide_eq_true c28
              clear c28
              revert H
              refine bd_ fun t1079 A29 H => ?_
              revert H
              refine bd_ fun t1080 A30 H => ?_
              have H' := ak H
              clear H
              have p1073 : 0 ≤ (x18_4 : Int) := od_
              have q1073 : x18_4 < (l2.length : Int) := od_
              obtain ⟨ad1073, A1073_0, c1073_0, e1073, hx1073_0, hl1073_0, hi1073_0⟩ := at_L3 HR2.out x18_4 p1073 q1073
              cases e1073
              replace hx1073_0 := (HB.out.cell (World.block_lt_of_cell? w _ hx1073_0)).trans hx1073_0
              have HR1073_0 := ak hi1073_0
              have HC1073_0 := ak hl1073_0
              clear hi1073_0 hl1073_0
              replace p1073 := eq_true p1073
              replace q1073 := eq_true q1073
              go_wp2_with (first | ((with_reducible refine gate_callee (f := 75) rfl ?_); refine gl_ (some 84) Tryd.func75 #[.int .i64 a0, .slice A1073_0 (rd_L3 l2 x18_4).length c1073_0, .int .u64 x11_1, .int .u64 x12_2] ?_; (with_reducible refine (attestorref11_Value.calls k4 a0 _ _ (rd_L3 l2 x18_4) x11_1 x12_2 t1074 _ ?side1 ?side2 A23.out).mono ?_); (case side1 => exact cU_ (C_below HR1073_0.out HB.out)); (case side2 => exact HC1073_0.out); rintro e w' ⟨rfl, ⟨nd, rfl⟩⟩; refine ⟨_, rfl, ?_⟩; have p1078 : 0 ≤ (x18_4 : Int) := od_; have q1078 : x18_4 < (l3.length : Int) := od_; obtain ⟨ad1078, e1078, hx1078_0⟩ := Kd.at_int HR3.out x18_4 p1078 q1078; cases e1078; replace hx1078_0 := (HB.out.cell (World.block_lt_of_cell? w _ hx1078_0)).trans hx1078_0; replace p1078 := eq_true p1078; replace q1078 := eq_true q1078) | ((with_reducible refine gate_callee (f := 78) rfl ?_); refine gl_ (some 98) Tryd.func78 #[.int .i64 a0, .int .u64 (rd l3 x18_4), .int .u64 t1074] ?_; (with_reducible refine (attestorref01_Div.calls k4 a0 (rd l3 x18_4) t1074 t1079 _ A29.out).mono ?_); rintro e w' ⟨rfl, ⟨nd, rfl⟩⟩; refine ⟨_, rfl, ?_⟩) | ((with_reducible refine gate_callee (f := 76) rfl ?_); refine gl_ (some 99) Tryd.func76 #[.int .i64 a0, .int .u64 x14_4, .int .u64 t1079] ?_; (with_reducible refine (attestorref01_Add.calls a0 x14_4 t1079 t1080 _ A30.out).mono ?_); rintro e w' ⟨rfl, ⟨nd, rfl⟩⟩; refine ⟨_, rfl, ?_⟩))
              go_roundg k4
              case measure => have := HK1.out; have := HK2.out; have := HK3.out; have := HK4.out; omega
              case rel => exact ⟨(t1080), (false), (wrap64 (x18_4 + 1)), gb_, gb_, gb_, H', ⟨by have := HK1.out; have := HK2.out; have := HK3.out; have := HK4.out; omega⟩, ⟨bU_ HB.out⟩⟩
             rw [if_neg c21] at H
             have c21b0 := decide_eq_false c21
             clear c21
             by_cases c31 : x15_4 = true
             ·subst c31
              rw [if_pos rfl] at H
              by_cases c32 : x13_3 = x14_4
              ·rw [if_pos c32] at H
               have c32b0 := beq_iff_eq.mpr c32
               have c32b1 := bne_eq_false_iff_eq.mpr c32
               clear c32
               have H' := ak H
               clear H
               go_wp2
               go_roundg k4
               case measure => have := HK1.out; have := HK2.out; have := HK3.out; have := HK4.out; omega
               case rel => exact ⟨(wrap64 (x10_2 + 1)), (IntKind.u64.wrap (x12_2 + 1)), gb_, gb_, H', ⟨by have := HK1.out; have := HK2.out; have := HK3.out; have := HK4.out; omega⟩, ⟨bU_ HB.out⟩⟩
              rw [if_neg c32] at H
              have c32b0 := beq_eq_false_iff_ne.mpr c32
              have c32b1 := bne_iff_ne.mpr c32
              have H' := ak H
              clear H
              go_wp2
              go_roundg k4
              case measure => have := HK1.out; have := HK2.out; have := HK3.out; have := HK4.out; omega
              case rel => exact ⟨(x10_2), (IntKind.u64.wrap (x12_2 + 1)), gb_, gb_, H', ⟨by have := HK1.out; have := HK2.out; have := HK3.out; have := HK4.out; omega⟩, ⟨bU_ HB.out⟩⟩
             replace c31 := Bool.eq_false_iff.mpr c31
             subst c31
             rw [if_neg (show ¬ (false = true) by decide)] at H
             have H' := ak H
             clear H
             go_wp2
             go_roundg k4
             case measure => have := HK1.out; have := HK2.out; have := HK3.out; have := HK4.out; omega
             case rel => exact ⟨(x10_2), (IntKind.u64.wrap (x12_2 + 1)), gb_, gb_, H', ⟨by have := HK1.out; have := HK2.out; have := HK3.out; have := HK4.out; omega⟩, ⟨bU_ HB.out⟩⟩
        rw [if_neg c12] at H
        have c12b0 := decide_eq_false c12
        clear c12
        have H' := ak H
        clear H
        go_wp2_with (first | ((with_reducible refine gate_callee (f := 54) rfl ?_); refine gl_ (some 42) Tryd.func54 #[.int .i64 a0] ?_; (with_reducible refine (attestorref01_P.calls a0 t1066 _ A11.out).mono ?_); rintro e w' ⟨rfl, ⟨nd, rfl⟩⟩; refine ⟨_, rfl, ?_⟩))
        go_roundg k2
        case measure => have := HK1.out; have := HK2.out; omega
        case rel => exact ⟨(x10_2), (IntKind.u64.wrap (x11_1 + 1)), gb_, gb_, H', ⟨by have := HK1.out; have := HK2.out; omega⟩, ⟨bU_ HB.out⟩⟩
     rw [if_neg c10] at H
     have c10b0 := decide_eq_false c10
     clear c10
     simp only [Option.some.injEq, Prod.mk.injEq] at H
     obtain ⟨rfl, rfl⟩ := H
     go_wp2_with (first | ((with_reducible refine gate_callee (f := 54) rfl ?_); refine gl_ (some 36) Tryd.func54 #[.int .i64 a0] ?_; (with_reducible refine (attestorref01_P.calls a0 t1065 _ A9.out).mono ?_); rintro e w' ⟨rfl, ⟨nd, rfl⟩⟩; refine ⟨_, rfl, ?_⟩))
     go_ret2
     exact ⟨eW_, bU_ HB.out⟩
  rw [if_neg c7] at H
  have c7b0 := beq_eq_false_iff_ne.mpr c7
  have c7b1 := bne_iff_ne.mpr c7
  revert H
  refine bd_ fun t1064 A33 H => ?_
  simp only [Option.some.injEq, Prod.mk.injEq] at H
  obtain ⟨rfl, rfl⟩ := H
  go_enter Tryd.func31, Tryd.ntmps31
  go_wp2_with (first | ((with_reducible refine gate_callee (f := 73) rfl ?_); refine gl_ (some 28) Tryd.func73 #[.int .i64 a0, .slice A1 l1.length c1, .slice A2 l2.length c2] ?_; (with_reducible refine (attestorref11_tuples.calls k a0 (fun k_ => k_ < w.heap.size) _ _ l1 (fun k_ => k_ < w.heap.size) _ _ l2 t1063 _ ?side1 ?side2 A6.out).mono ?_); (case side1 => exact V_mk HC1.out (F_below (C_F (Kd.heap_slice 48 (heap_int .u64)) HR1.out) (bU_ HB.out))); (case side2 => exact V_mk HC2.out (F_below (C_F (Kd.heap_slice 48 (heap_int .u64)) HR2.out) (bU_ HB.out))); rintro e w34 ⟨rfl, hb⟩; refine ⟨_, rfl, ?_⟩; refine nx1_ (below_step (bU_ HB.out) hb) ?_; clear HB; intro HB; clear hb) | ((with_reducible refine gate_callee (f := 73) rfl ?_); refine gl_ (some 33) Tryd.func73 #[.int .i64 a0, .slice A1 l1.length c1, .slice A2 l2.length c2] ?_; (with_reducible refine (attestorref11_tuples.calls k a0 (fun k_ => k_ < w.heap.size) _ _ l1 (fun k_ => k_ < w.heap.size) _ _ l2 t1064 _ ?side1 ?side2 A33.out).mono ?_); (case side1 => exact V_mk HC1.out (F_below (C_F (Kd.heap_slice 48 (heap_int .u64)) HR1.out) (bU_ HB.out))); (case side2 => exact V_mk HC2.out (F_below (C_F (Kd.heap_slice 48 (heap_int .u64)) HR2.out) (bU_ HB.out))); rintro e w35 ⟨rfl, hb⟩; refine ⟨_, rfl, ?_⟩; refine nx1_ (below_step (bU_ HB.out) hb) ?_; clear HB; intro HB; clear hb))
  go_ret2
  exact ⟨eW_, bU_ HB.out⟩
 rw [if_neg c5] at H
 have c5b0 := beq_eq_false_iff_ne.mpr c5
 have c5b1 := bne_iff_ne.mpr c5
 have c5b2 : (l2.length == l3.length) = false := by first | simpa using c5 | (simp at c5 ⊢; omega)
 simp only [Option.some.injEq, Prod.mk.injEq] at H
 obtain ⟨rfl, rfl⟩ := H
 go_enter Tryd.func31, Tryd.ntmps31
 go_wp2
 go_ret2
 exact ⟨eW_, bU_ HB.out⟩

end Go.Proofs.YtbjeemlbjkmhiaaDoor.Q

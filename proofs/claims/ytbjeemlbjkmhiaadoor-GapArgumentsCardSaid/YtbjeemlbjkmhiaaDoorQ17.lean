import Derived.Test.YtbjeemlbjkmhiaaDoorQ0
import Derived.Test.YtbjeemlbjkmhiaaDoorQ4
import Derived.Test.YtbjeemlbjkmhiaaDoorQ12
import Derived.Test.YtbjeemlbjkmhiaaDoorQ14
import Derived.Test.YtbjeemlbjkmhiaaDoorQ16
namespace Go.Proofs.YtbjeemlbjkmhiaaDoor.Q
open Go.RowKit Go.Proofs.YtbjeemlbjkmhiaaDoorW.PrintWords Go.Proofs.YtbjeemlbjkmhiaaDoorW.PrintLast Go.Proofs.YtbjeemlbjkmhiaaDoorW.PrintMore
open Kd (C_below C_of_reads)
attribute [local go_sem] max2_int min2_int max_two min_two max_three min_three max_four min_four   -- for this text's walks alone
set_option linter.unusedVariables false
set_option linter.unusedSimpArgs false

mutual
def attestorlaw11_GapArguments.j0 : Nat → Int → List (List Int) → List (List Int) → List Int → Option (Bool)
 | 0, _, _, _, _ => none
 | k + 1, x0, x2, x3, x4 => (gap_Equal.f k x0 x2 x3).bind fun bt1100 => ((attestorref11_Equal.f k x0 x2 x3).bind fun bt1102 => (if bt1100.1 = bt1102.1 then (if bt1100.2 = bt1102.2 then ((gap_Found.f k x0 x2 x3 x4).bind fun bt1104 => ((attestorref11_Found.f k x0 x2 x3 x4).bind fun bt1106 => (if bt1104.1 = bt1106.1 then (if bt1104.2 = bt1106.2 then ((attestorlaw11_works.f k).bind fun t1108 => (some t1108)) else (none)) else (none)))) else (none)) else (none)))
def attestorlaw11_GapArguments.j1 : Nat → Int → List (List Int) → List (List Int) → List Int → Option (Bool)
 | 0, _, _, _, _ => none
 | k + 1, x0, x2, x3, x4 => (gap_Equal.f k x0 x2 x3).bind fun bt1113 => ((attestorref11_Equal.f k x0 x2 x3).bind fun bt1115 => (if bt1113.1 = bt1115.1 then (if bt1113.2 = bt1115.2 then ((gap_Found.f k x0 x2 x3 x4).bind fun bt1117 => ((attestorref11_Found.f k x0 x2 x3 x4).bind fun bt1119 => (if bt1117.1 = bt1119.1 then (if bt1117.2 = bt1119.2 then ((attestorlaw11_works.f k).bind fun t1121 => (some t1121)) else (none)) else (none)))) else (none)) else (none)))
def attestorlaw11_GapArguments.j2 : Nat → Int → List (List Int) → List (List Int) → List Int → Option (Bool)
 | 0, _, _, _, _ => none
 | k + 1, x0, x2, x3, x4 => (gap_Equal.f k x0 x2 x3).bind fun bt1126 => ((attestorref11_Equal.f k x0 x2 x3).bind fun bt1128 => (if bt1126.1 = bt1128.1 then (if bt1126.2 = bt1128.2 then ((gap_Found.f k x0 x2 x3 x4).bind fun bt1130 => ((attestorref11_Found.f k x0 x2 x3 x4).bind fun bt1132 => (if bt1130.1 = bt1132.1 then (if bt1130.2 = bt1132.2 then ((attestorlaw11_works.f k).bind fun t1134 => (some t1134)) else (none)) else (none)))) else (none)) else (none)))
end
def attestorlaw11_GapArguments.f (k : Nat) (a0 : Int) (l1 : List Int) (l2 : List (List Int)) (l3 : List (List Int)) (l4 : List Int) : Option (Bool) := if 0 ≤ (mn (l1.length : Int) 40) then (if (mn (l1.length : Int) 40) ≤ (l1.length : Int) then ((attestorlaw11_columns.f k l2 34 10).bind fun t1082 => ((attestorlaw11_columns.f k l3 34 10).bind fun t1085 => (if 0 ≤ (mn (l4.length : Int) 34) then (if (mn (l4.length : Int) 34) ≤ (l4.length : Int) then (if (t1082.length : Int) ≤ 32 then (if (t1085.length : Int) ≤ 32 then (if 0 ≤ (mn (t1082.length : Int) 6) then (if (mn (t1082.length : Int) 6) ≤ (t1082.length : Int) then (if 0 ≤ (mn (t1085.length : Int) 6) then (if (mn (t1085.length : Int) 6) ≤ (t1085.length : Int) then (if 0 ≤ (mn ((l4.take ((mn (l4.length : Int) 34) : Int).toNat).length : Int) 6) then (if (mn ((l4.take ((mn (l4.length : Int) 34) : Int).toNat).length : Int) 6) ≤ ((l4.take ((mn (l4.length : Int) 34) : Int).toNat).length : Int) then ((gap_Roots.f k a0 (l1.take ((mn (l1.length : Int) 40) : Int).toNat)).bind fun bt1096 => ((attestorref11_Roots.f k a0 (l1.take ((mn (l1.length : Int) 40) : Int).toNat)).bind fun bt1098 => (if bt1096.1 = bt1098.1 then (if bt1096.2 = bt1098.2 then (attestorlaw11_GapArguments.j0 k a0 (t1082.take ((mn (t1082.length : Int) 6) : Int).toNat) (t1085.take ((mn (t1085.length : Int) 6) : Int).toNat) ((l4.take ((mn (l4.length : Int) 34) : Int).toNat).take ((mn ((l4.take ((mn (l4.length : Int) 34) : Int).toNat).length : Int) 6) : Int).toNat)) else (none)) else (none)))) else (none)) else (none)) else (none)) else (none)) else (none)) else (none)) else ((gap_Roots.f k a0 (l1.take ((mn (l1.length : Int) 40) : Int).toNat)).bind fun bt1109 => ((attestorref11_Roots.f k a0 (l1.take ((mn (l1.length : Int) 40) : Int).toNat)).bind fun bt1111 => (if bt1109.1 = bt1111.1 then (if bt1109.2 = bt1111.2 then (attestorlaw11_GapArguments.j1 k a0 t1082 t1085 (l4.take ((mn (l4.length : Int) 34) : Int).toNat)) else (none)) else (none))))) else ((gap_Roots.f k a0 (l1.take ((mn (l1.length : Int) 40) : Int).toNat)).bind fun bt1122 => ((attestorref11_Roots.f k a0 (l1.take ((mn (l1.length : Int) 40) : Int).toNat)).bind fun bt1124 => (if bt1122.1 = bt1124.1 then (if bt1122.2 = bt1124.2 then (attestorlaw11_GapArguments.j2 k a0 t1082 t1085 (l4.take ((mn (l4.length : Int) 34) : Int).toNat)) else (none)) else (none))))) else (none)) else (none)))) else (none)) else (none)
def attestorlaw11_GapArguments.T2 : Bool × List (List Nat × List Nat) := (true, [([], []), ([0], [0]), ([], []), ([2, 1], [2]), ([], []), ([], []), ([5], [5]), ([6], [6]), ([4, 7], [4, 7]), ([1, 3, 0, 1], [0, 1]), ([3, 9, 0, 1, 2, 3, 9], [2, 3]), ([8, 10, 0, 1, 2, 3, 4, 5, 6, 7, 8, 9, 10], [4, 5, 8])])
def attestorlaw11_GapArguments.B2 : List Nat := [0, 1, 0, 7, 0, 0, 32, 96, 240, 15, 527, 2047]
theorem attestorlaw11_GapArguments.tab2 : rtab .any (opsOf Tryd.f7 2) = attestorlaw11_GapArguments.T2 := by kernel_rfl
theorem attestorlaw11_GapArguments.bits2 : waitsOk attestorlaw11_GapArguments.T2.2 attestorlaw11_GapArguments.B2 = true := by kernel_rfl
def attestorlaw11_GapArguments.T4 : Bool × List (List Nat × List Nat) := (true, [([], []), ([], []), ([1], [1]), ([2], [2]), ([0, 3], [0, 3]), ([], []), ([], []), ([6], [6]), ([7], [7]), ([5, 8], [5, 8]), ([], []), ([], []), ([11], [11]), ([12], [12]), ([10, 13], [10, 13]), ([4, 0, 1, 2, 3, 4], [0, 1, 4]), ([9, 15, 0, 1, 2, 3, 4, 5, 6, 7, 8, 9, 15], [5, 6, 9]), ([14, 16, 0, 1, 2, 3, 4, 5, 6, 7, 8, 9, 10, 11, 12, 13, 14, 15, 16], [10, 11, 14])])
def attestorlaw11_GapArguments.B4 : List Nat := [0, 0, 2, 6, 15, 0, 0, 64, 192, 480, 0, 0, 2048, 6144, 15360, 31, 33791, 131071]
theorem attestorlaw11_GapArguments.tab4 : rtab .any (opsOf Tryd.f7 4) = attestorlaw11_GapArguments.T4 := by kernel_rfl
theorem attestorlaw11_GapArguments.bits4 : waitsOk attestorlaw11_GapArguments.T4.2 attestorlaw11_GapArguments.B4 = true := by kernel_rfl
theorem ownB_len (A : Option Addr) (n m c d : Nat) : (Value.slice A n c).ownBlock = (Value.slice A m d).ownBlock := by cases A <;> rfl
set_option maxHeartbeats 8000000 in
set_option maxRecDepth 100000 in
theorem attestorlaw11_GapArguments.calls (k : Nat) (a0 : Int) (A1 : Option Addr) (c1 : Nat) (l1 : List Int) (A2 : Option Addr) (c2 : Nat) (l2 : List (List Int)) (A3 : Option Addr) (c3 : Nat) (l3 : List (List Int)) (A4 : Option Addr) (c4 : Nat) (l4 : List Int) (r : Bool) (w : World) (hG : Fld w) (hr1 : Kd.C (Kd.int .u64) w A1 l1.length l1) (hc1 : l1.length ≤ c1) (hr2 : Kd.C (Kd.slice 48 (Kd.int .u64)) w A2 l2.length l2) (hc2 : l2.length ≤ c2) (hr3 : Kd.C (Kd.slice 48 (Kd.int .u64)) w A3 l3.length l3) (hc3 : l3.length ≤ c3) (hr4 : Kd.C (Kd.int .u64) w A4 l4.length l4) (hc4 : l4.length ≤ c4) (h : attestorlaw11_GapArguments.f k a0 l1 l2 l3 l4 = some r) :
  Calls Tryd.prog 7 #[.int .i64 a0, .slice A1 l1.length c1, .slice A2 l2.length c2, .slice A3 l3.length c3, .slice A4 l4.length c4] w fun e w' => e = .returned (.bool r) ∧ Below w.heap.size w w' := by
 have HG := ak hG
 clear hG
 have HR1 := ak hr1
 have HC1 := ak hc1
 clear hr1 hc1
 have HR2 := ak hr2
 have HC2 := ak hc2
 clear hr2 hc2
 have HR3 := ak hr3
 have HC3 := ak hc3
 clear hr3 hc3
 have HR4 := ak hr4
 have HC4 := ak hc4
 clear hr4 hc4
 have HB := ak (Below.refl w.heap.size w)
 have H := h
 clear h
 unfold attestorlaw11_GapArguments.f at H
 obtain ⟨ji6, hji6⟩ : ∃ j_ : Int, (mn (l1.length : Int) 40) = j_ := ⟨_, rfl⟩
 first | rw [hji6] at H | simp only [hji6] at H
 (try (have hji6h : ji6 ≤ 40 := by (rw [← hji6]; unfold mn; (repeat' split) <;> omega)))
 (try (have hji6g : ji6 ≤ 64 := by omega))
 (try (have hji6l : 0 ≤ ji6 := by (rw [← hji6]; unfold mn; (repeat' split) <;> omega)))
 (try (have hji6m : 0 ≤ ji6 := by omega))
 have hji6_ : (if 40 < (l1.length : Int) then 40 else (l1.length : Int)) = ji6 := hji6
 obtain ⟨c7, H⟩ : (0 ≤ (ji6)) ∧ _ := it_ H
 have c7b0 := eq_true c7
 have c7b1 := decide_eq_true c7
 clear c7
 obtain ⟨c8, H⟩ : ((ji6) ≤ (l1.length : Int)) ∧ _ := it_ H
 have c8b0 := eq_true c8
 have c8b1 := decide_eq_true c8
 clear c8
 revert H
 refine bd_ fun t1082 A9 H => ?_
 revert H
 refine bd_ fun t1085 A10 H => ?_
 obtain ⟨ji11, hji11⟩ : ∃ j_ : Int, (mn (l4.length : Int) 34) = j_ := ⟨_, rfl⟩
 first | rw [hji11] at H | simp only [hji11] at H
 (try rw [hji11] at A9)
 (try rw [hji11] at A10)
 (try (have hji11h : ji11 ≤ 34 := by (rw [← hji11]; unfold mn; (repeat' split) <;> omega)))
 (try (have hji11g : ji11 ≤ 64 := by omega))
 (try (have hji11l : 0 ≤ ji11 := by (rw [← hji11]; unfold mn; (repeat' split) <;> omega)))
 (try (have hji11m : 0 ≤ ji11 := by omega))
 have hji11_ : (if 34 < (l4.length : Int) then 34 else (l4.length : Int)) = ji11 := hji11
 obtain ⟨c12, H⟩ : (0 ≤ (ji11)) ∧ _ := it_ H
 have c12b0 := eq_true c12
 have c12b1 := decide_eq_true c12
 clear c12
 obtain ⟨c13, H⟩ : ((ji11) ≤ (l4.length : Int)) ∧ _ := it_ H
 have c13b0 := eq_true c13
 have c13b1 := decide_eq_true c13
 clear c13
 obtain ⟨lx4, hlx4⟩ : ∃ y_ : List Int, y_ = (l4.take ((ji11) : Int).toNat) := ⟨_, rfl⟩
 rw [← hlx4] at H
 have Nlx4 := ak hlx4
 clear hlx4
 by_cases c14 : (t1082.length : Int) ≤ 32
 ·rw [if_pos c14] at H
  have c14b0 := decide_eq_true c14
  have c14b1 : decide (t1082.length ≤ 32) = true := decide_eq_true (by omega)
  clear c14
  by_cases c15 : (t1085.length : Int) ≤ 32
  ·rw [if_pos c15] at H
   have c15b0 := decide_eq_true c15
   have c15b1 : decide (t1085.length ≤ 32) = true := decide_eq_true (by omega)
   clear c15
   obtain ⟨ji16, hji16⟩ : ∃ j_ : Int, (mn (t1082.length : Int) 6) = j_ := ⟨_, rfl⟩
   first | rw [hji16] at H | simp only [hji16] at H
   (try rw [hji16] at A9)
   (try rw [hji16] at A10)
   (try (have hji16h : ji16 ≤ 6 := by (rw [← hji16]; unfold mn; (repeat' split) <;> omega)))
   (try (have hji16g : ji16 ≤ 64 := by omega))
   (try (have hji16l : 0 ≤ ji16 := by (rw [← hji16]; unfold mn; (repeat' split) <;> omega)))
   (try (have hji16m : 0 ≤ ji16 := by omega))
   have hji16_ : (if 6 < (t1082.length : Int) then 6 else (t1082.length : Int)) = ji16 := hji16
   obtain ⟨c17, H⟩ : (0 ≤ (ji16)) ∧ _ := it_ H
   have c17b0 := eq_true c17
   have c17b1 := decide_eq_true c17
   clear c17
   obtain ⟨c18, H⟩ : ((ji16) ≤ (t1082.length : Int)) ∧ _ := it_ H
   have c18b0 := eq_true c18
   have c18b1 := decide_eq_true c18
   clear c18
   obtain ⟨y1089, hy1089⟩ : ∃ y_ : List (List Int), y_ = (t1082.take ((ji16) : Int).toNat) := ⟨_, rfl⟩
   replace H : (if 0 ≤ (mn (t1085.length : Int) 6) then (if (mn (t1085.length : Int) 6) ≤ (t1085.length : Int) then (if 0 ≤ (mn (lx4.length : Int) 6) then (if (mn (lx4.length : Int) 6) ≤ (lx4.length : Int) then ((gap_Roots.f k a0 (l1.take ((ji6) : Int).toNat)).bind fun bt1096 => ((attestorref11_Roots.f k a0 (l1.take ((ji6) : Int).toNat)).bind fun bt1098 => (if bt1096.1 = bt1098.1 then (if bt1096.2 = bt1098.2 then (attestorlaw11_GapArguments.j0 k a0 y1089 (t1085.take ((mn (t1085.length : Int) 6) : Int).toNat) (lx4.take ((mn (lx4.length : Int) 6) : Int).toNat)) else (none)) else (none)))) else (none)) else (none)) else (none)) else (none)) = some r := by first | (rw [hy1089]; with_reducible exact H) | (have H2_ := (Option.bind_some _ _).symm.trans H; rw [hy1089]; with_reducible exact H2_) | (have H2_ := (Option.bind_some _ _).symm.trans H; with_reducible exact H2_) | with_reducible exact H | (rw [hy1089]; exact H) | exact H
   have Ny1089 := ak hy1089
   clear hy1089
   obtain ⟨ji19, hji19⟩ : ∃ j_ : Int, (mn (t1085.length : Int) 6) = j_ := ⟨_, rfl⟩
   first | rw [hji19] at H | simp only [hji19] at H
   (try rw [hji19] at A9)
   (try rw [hji19] at A10)
   (try (have hji19h : ji19 ≤ 6 := by (rw [← hji19]; unfold mn; (repeat' split) <;> omega)))
   (try (have hji19g : ji19 ≤ 64 := by omega))
   (try (have hji19l : 0 ≤ ji19 := by (rw [← hji19]; unfold mn; (repeat' split) <;> omega)))
   (try (have hji19m : 0 ≤ ji19 := by omega))
   have hji19_ : (if 6 < (t1085.length : Int) then 6 else (t1085.length : Int)) = ji19 := hji19
   obtain ⟨c20, H⟩ : (0 ≤ (ji19)) ∧ _ := it_ H
   have c20b0 := eq_true c20
   have c20b1 := decide_eq_true c20
   clear c20
   obtain ⟨c21, H⟩ : ((ji19) ≤ (t1085.length : Int)) ∧ _ := it_ H
   have c21b0 := eq_true c21
   have c21b1 := decide_eq_true c21
   clear c21
   obtain ⟨y1092, hy1092⟩ : ∃ y_ : List (List Int), y_ = (t1085.take ((ji19) : Int).toNat) := ⟨_, rfl⟩
   replace H : (if 0 ≤ (mn (lx4.length : Int) 6) then (if (mn (lx4.length : Int) 6) ≤ (lx4.length : Int) then ((gap_Roots.f k a0 (l1.take ((ji6) : Int).toNat)).bind fun bt1096 => ((attestorref11_Roots.f k a0 (l1.take ((ji6) : Int).toNat)).bind fun bt1098 => (if bt1096.1 = bt1098.1 then (if bt1096.2 = bt1098.2 then (attestorlaw11_GapArguments.j0 k a0 y1089 y1092 (lx4.take ((mn (lx4.length : Int) 6) : Int).toNat)) else (none)) else (none)))) else (none)) else (none)) = some r := by first | (rw [hy1092]; with_reducible exact H) | (have H2_ := (Option.bind_some _ _).symm.trans H; rw [hy1092]; with_reducible exact H2_) | (have H2_ := (Option.bind_some _ _).symm.trans H; with_reducible exact H2_) | with_reducible exact H | (rw [hy1092]; exact H) | exact H
   have Ny1092 := ak hy1092
   clear hy1092
   obtain ⟨ji22, hji22⟩ : ∃ j_ : Int, (mn (lx4.length : Int) 6) = j_ := ⟨_, rfl⟩
   first | rw [hji22] at H | simp only [hji22] at H
   (try rw [hji22] at A9)
   (try rw [hji22] at A10)
   have hji22_ : (if 6 < (lx4.length : Int) then 6 else (lx4.length : Int)) = ji22 := hji22
   obtain ⟨c23, H⟩ : (0 ≤ (ji22)) ∧ _ := it_ H
   have c23b0 := eq_true c23
   have c23b1 := decide_eq_true c23
   clear c23
   obtain ⟨c24, H⟩ : ((ji22) ≤ (lx4.length : Int)) ∧ _ := it_ H
   have c24b0 := eq_true c24
   have c24b1 := decide_eq_true c24
   clear c24
   obtain ⟨lx5, hlx5⟩ : ∃ y_ : List Int, y_ = (lx4.take ((ji22) : Int).toNat) := ⟨_, rfl⟩
   rw [← hlx5] at H
   have Nlx5 := ak hlx5
   clear hlx5
   revert H
   refine bd2_ fun t1096 t1097 A25 H => ?_
   try dsimp only at H
   revert H
   refine bd2_ fun t1098 t1099 A26 H => ?_
   try dsimp only at H
   obtain ⟨c27, H⟩ : (t1096 = t1098) ∧ _ := it_ H
   have c27b0 := beq_iff_eq.mpr c27
   have c27b1 := bne_eq_false_iff_eq.mpr c27
   clear c27
   have HC28 := ak H
   clear H
   obtain ⟨i029, hi029, _, hsz29, _⟩ := info_parts info48
   obtain ⟨hcut29, hA29, hC29⟩ := print_take_of (P := Tryd.prog) (Value.int .u64) 0 35 48 .i64 Tryd.underlying35 hi029 hsz29 A1 c1 l1 (ji6) od_ od_ HC1.out
   have HR1081 := ak (C_of_reads (h1 := fun _ => rfl) (hA29 _ (Kd.reads_of_C HR1.out)))
   have HC1081 := ak hC29
   clear hA29 hC29 hi029 hsz29
   go_enter Tryd.func7, Tryd.ntmps7
   try go_wp2
   refine nx1_ (below_drew1 HB.out) ?_
   clear HB
   intro HB
   obtain ⟨i031, hi031, _, hsz31, _⟩ := info_parts info48
   obtain ⟨hcut31, hA31, hC31⟩ := print_take_of (P := Tryd.prog) (Value.int .u64) 0 35 48 .i64 Tryd.underlying35 hi031 hsz31 A4 c4 l4 (ji11) od_ od_ HC4.out
   rw [← Nlx4.out] at hcut31 hA31 hC31
   have HR1088 := ak (C_of_reads (h1 := fun _ => rfl) (hA31 _ (Kd.reads_of_C HR4.out)))
   have HC1088 := ak hC31
   clear hA31 hC31 hi031 hsz31
   refine start_ (n := 12) (S := fun w' => True) (ds := []) (bv 12 0) (by kernel_rfl) rfl rfl trivial (fun hHeld => ?_); refine with_tabW attestorlaw11_GapArguments.tab2 attestorlaw11_GapArguments.bits2 (fun HT_ HW_ => ?_)
   generalize w.drew = w30 at HB HR1088 hHeld ⊢
   refine pq_ 0 20 12 1 HT_.out ?_
   refine pq_ 2 22 12 5 HT_.out ?_
   refine pq_ 4 24 12 21 HT_.out ?_
   refine pq_ 5 25 12 53 HT_.out ?_
   refine pq_ 6 26 12 117 HT_.out ?_
   refine pq_ 7 27 12 245 HT_.out ?_
   refine pq_ 8 28 12 501 HT_.out ?_
   refine oq_ 1 21 12 503 HT_.out fun K hK => ?_
   refine gs_ Tryd.func28 #[.slice A2 l2.length c2, .int .i64 34, .int .i64 10] ?_
   with_reducible refine (attestorlaw11_columns.calls k _ _ l2 34 10 t1082 _ ?side1 ?side2 A9.out).mono ?_
   (case side1 => exact cU_ (C_below HR2.out HB.out))
   (case side2 => exact HC2.out)
   rintro e w32 ⟨v1083, rfl, ho0, hb⟩
   refine ⟨_, rfl, ?_⟩
   refine nx2_ (Kd.S_lower ho0 (below_size (bU_ HB.out))) (below_step (bU_ HB.out) hb) ?_
   clear HB
   intro HO1084 HB
   (try clear hb)
   (try clear hb2)
   (try clear hk)
   (try clear hi)
   (try clear ho0)
   refine hK.out _ _ trivial (fun hHeld => ?_)
   clear hK K
   refine norm_ (a' := ?_) ?_ ?_
   rotate_left
   ·show Act.put _ (some 21) _ = _
    simp only [Act.put, s1_, s2_, s3_, i64_w, i32_w]
    rfl
   refine oq_ 3 23 12 511 HT_.out fun K hK => ?_
   refine gs_ Tryd.func28 #[.slice A3 l3.length c3, .int .i64 34, .int .i64 10] ?_
   with_reducible refine (attestorlaw11_columns.calls k _ _ l3 34 10 t1085 _ ?side1 ?side2 A10.out).mono ?_
   (case side1 => exact cU_ (C_below HR3.out HB.out))
   (case side2 => exact HC3.out)
   rintro e w33 ⟨v1086, rfl, ho0, hb⟩
   refine ⟨_, rfl, ?_⟩
   refine nx3_ (Kd.S_elder' (by (with_reducible repeat (first | apply Kd.S_alloc | apply Kd.S_drewN | apply Kd.S_drew)); exact HO1084.out) (Kd.S_base ho0) hb) (Kd.S_lower (Kd.S_new' ho0 (Kd.S_lt (by (with_reducible repeat (first | apply Kd.S_alloc | apply Kd.S_drewN | apply Kd.S_drew)); exact HO1084.out))) (below_size (bU_ HB.out))) (below_step (bU_ HB.out) hb) ?_
   clear HO1084 HB
   intro HO1084 HO1087 HB
   (try clear hb)
   (try clear hb2)
   (try clear hk)
   (try clear hi)
   (try clear ho0)
   refine hK.out _ _ trivial (fun hHeld => ?_)
   clear hK K
   refine norm_ (a' := ?_) ?_ ?_
   rotate_left
   ·show Act.put _ (some 23) _ = _
    simp only [Act.put, s1_, s2_, s3_, i64_w, i32_w]
    rfl
   refine pq_ 9 2 12 1023 HT_.out ?_
   refine pq_ 10 3 12 2047 HT_.out ?_
   refine pq_ 11 4 12 4095 HT_.out ?_
   refine done_ (done_of HT_.out (by kernel_rfl)) ?_
   obtain ⟨Ao34, co34, eo34⟩ := Kd.S_slice HO1084.out
   subst eo34
   obtain ⟨Ao35, co35, eo35⟩ := Kd.S_slice HO1087.out
   subst eo35
   try go_wp2
   refine nx3_ (Kd.S_drew HO1084.out) (Kd.S_drew HO1087.out) (below_drew1 HB.out) ?_
   clear HO1084 HO1087 HB
   intro HO1084 HO1087 HB
   have q37 : ((ji16) : Int) ≤ ((t1082.length : Int) : Int) := od_
   obtain ⟨i037, hi037, _, hsz37, _⟩ := info_parts info35
   have hcut37 := cut_to (P := Tryd.prog) 42 35 .i64 Tryd.underlying42 hi037 Ao34 t1082.length co34 (ji16) od_ q37 (Kd.S_reads' HO1084.out).2.1
   have hr37 := Kd.S_take (m := ((ji16) : Int).toNat) HO1084.out (by omega)
   have hy37 : y1089.length = ((ji16) : Int).toNat := (by rw [Ny1089.out, List.length_take]; omega)
   rw [← Ny1089.out] at hr37
   rw [← hy37] at hr37 hcut37
   clear hy37 hi037 hsz37 HO1084
   have HO1091 := ak hr37
   clear hr37
   replace q37 := eq_true q37
   have q38 : ((ji19) : Int) ≤ ((t1085.length : Int) : Int) := od_
   obtain ⟨i038, hi038, _, hsz38, _⟩ := info_parts info35
   have hcut38 := cut_to (P := Tryd.prog) 42 35 .i64 Tryd.underlying42 hi038 Ao35 t1085.length co35 (ji19) od_ q38 (Kd.S_reads' HO1087.out).2.1
   have hr38 := Kd.S_take (m := ((ji19) : Int).toNat) HO1087.out (by omega)
   have hy38 : y1092.length = ((ji19) : Int).toNat := (by rw [Ny1092.out, List.length_take]; omega)
   rw [← Ny1092.out] at hr38
   rw [← hy38] at hr38 hcut38
   clear hy38 hi038 hsz38 HO1087
   have HO1094 := ak hr38
   clear hr38
   replace q38 := eq_true q38
   obtain ⟨i039, hi039, _, hsz39, _⟩ := info_parts info48
   obtain ⟨hcut39, hA39, hC39⟩ := print_take_of (P := Tryd.prog) (Value.int .u64) 0 35 48 .i64 Tryd.underlying35 hi039 hsz39 A4 c4 lx4 (ji22) od_ od_ HC1088.out
   rw [← Nlx5.out] at hcut39 hA39 hC39
   have HR1095 := ak (C_of_reads (h1 := fun _ => rfl) (hA39 _ (Kd.reads_of_C HR1088.out)))
   have HC1095 := ak hC39
   clear hA39 hC39 hi039 hsz39
   refine start_ (n := 18) (S := fun w' => True) (ds := []) (bv 18 0) (by kernel_rfl) rfl rfl trivial (fun hHeld => ?_); refine with_tabW attestorlaw11_GapArguments.tab4 attestorlaw11_GapArguments.bits4 (fun HT_ HW_ => ?_)
   generalize w33.drew = w36 at HB HO1091 HO1094 HR1095 hHeld ⊢
   refine pq_ 0 37 18 1 HT_.out ?_
   refine pq_ 1 38 18 3 HT_.out ?_
   refine pq_ 2 39 18 7 HT_.out ?_
   refine pq_ 3 40 18 15 HT_.out ?_
   refine pq_ 4 41 18 31 HT_.out ?_
   refine pq_ 5 42 18 63 HT_.out ?_
   refine pq_ 6 43 18 127 HT_.out ?_
   refine pq_ 7 44 18 255 HT_.out ?_
   refine pq_ 8 45 18 511 HT_.out ?_
   refine pq_ 9 46 18 1023 HT_.out ?_
   refine pq_ 10 47 18 2047 HT_.out ?_
   refine pq_ 11 48 18 4095 HT_.out ?_
   refine pq_ 12 49 18 8191 HT_.out ?_
   refine pq_ 13 50 18 16383 HT_.out ?_
   refine pq_ 14 51 18 32767 HT_.out ?_
   refine pq_ 15 2 18 65535 HT_.out ?_
   refine pq_ 16 3 18 131071 HT_.out ?_
   refine pq_ 17 4 18 262143 HT_.out ?_
   refine done_ (done_of HT_.out (by kernel_rfl)) ?_
   go_upto_if 71 with (first | ((with_reducible refine gate_callee (f := 18) rfl ?_); refine goesL_ (some 55) rfl rfl Tryd.func18 (by kernel_rfl) rfl #[.int .i64 a0, .slice A1 (l1.take ((ji6) : Int).toNat).length c1] rfl (by (try simp only [List.map_toArray, List.map_cons, List.map_nil]); first | done | (rw [show (l1.take ((ji6) : Int).toNat).length = (ji6).toNat from (by rw [List.length_take]; have h_ : ((ji6) : Int) ≤ (l1.length : Int) := od_; omega)] <;> rfl) | (simp only [hji6]; rfl) | rfl | (simp only [List.length_drop, List.length_take]; rfl)) ?_; (with_reducible refine (gap_Roots.calls k a0 _ _ (l1.take ((ji6) : Int).toNat) t1096 t1097 _ ?side1 ?side2 ?side3 A25.out).mono ?_); (case side1 => exact fU_ HG.out HB.out); (case side2 => exact cU_ (C_below HR1081.out HB.out)); (case side3 => exact HC1081.out); rintro e w40 ⟨rfl, hb⟩; refine ⟨_, rfl, ?_⟩; refine nx3_ (Kd.S_below (by (with_reducible repeat (first | apply Kd.S_alloc | apply Kd.S_drewN | apply Kd.S_drew)); exact HO1091.out) hb) (Kd.S_below (by (with_reducible repeat (first | apply Kd.S_alloc | apply Kd.S_drewN | apply Kd.S_drew)); exact HO1094.out) hb) (below_step (bU_ HB.out) hb) ?_; clear HO1091 HO1094 HB; intro HO1091 HO1094 HB; clear hb) | ((with_reducible refine gate_callee (f := 29) rfl ?_); refine goesL_ (some 61) rfl rfl Tryd.func29 (by kernel_rfl) rfl #[.int .i64 a0, .slice A1 (l1.take ((ji6) : Int).toNat).length c1] rfl (by (try simp only [List.map_toArray, List.map_cons, List.map_nil]); first | done | (rw [show (l1.take ((ji6) : Int).toNat).length = (ji6).toNat from (by rw [List.length_take]; have h_ : ((ji6) : Int) ≤ (l1.length : Int) := od_; omega)] <;> rfl) | (simp only [hji6]; rfl) | rfl | (simp only [List.length_drop, List.length_take]; rfl)) ?_; (with_reducible refine (attestorref11_Roots.calls k a0 _ _ (l1.take ((ji6) : Int).toNat) t1098 t1099 _ ?side1 ?side2 A26.out).mono ?_); (case side1 => exact cU_ (C_below HR1081.out HB.out)); (case side2 => exact HC1081.out); rintro e w' ⟨rfl, ⟨nd, rfl⟩⟩; refine ⟨_, rfl, ?_⟩))
   (try simp only [Act.put, s1_, s2_, s3_])
   go_cut [] (fun wc => ∃ (kq : Nat), Aside0 (attestorlaw11_GapArguments.j0 kq a0 y1089 y1092 lx5 = some r) ∧ Aside0 (kq ≤ k) ∧ Aside0 (Kd.S (Kd.slice 48 (Kd.int .u64)) 35 wc w.heap.size (fun k_ => some k_ ≠ ((.slice Ao35 y1092.length co35) : Value).ownBlock) (.slice Ao34 y1089.length co34) y1089) ∧ Aside0 (Kd.S (Kd.slice 48 (Kd.int .u64)) 35 wc w.heap.size (fun k_ => some k_ ≠ ((.slice Ao34 y1089.length co34) : Value).ownBlock) (.slice Ao35 y1092.length co35) y1092) ∧ Aside0 (Below w.heap.size w wc))
   case first =>
    have H := HC28.out
    clear HC28
    obtain ⟨c41, H⟩ : (t1097 = t1099) ∧ _ := it_ H
    have c41b0 := beq_iff_eq.mpr c41
    have c41b1 := bne_eq_false_iff_eq.mpr c41
    clear c41
    (first | rw [c41b0] | (simp only [i64_w, i32_w]; rw [c41b0]) | rw [c41b1] | skip)
    have H' := ak H
    clear H
    go_wp2
    go_meet
    case rel => exact ⟨_, H', ⟨by first | omega | exact Nat.le_refl _⟩, ⟨by (with_reducible repeat (first | apply Kd.S_alloc | apply Kd.S_drewN | apply Kd.S_drew)); exact Kd.S_mono HO1091.out (fun _ hk => ownB_len Ao35 t1085.length y1092.length co35 co35 ▸ hk.2)⟩, ⟨by (with_reducible repeat (first | apply Kd.S_alloc | apply Kd.S_drewN | apply Kd.S_drew)); exact Kd.S_mono HO1094.out (fun _ hk => ownB_len Ao34 t1082.length y1089.length co34 co34 ▸ hk.2)⟩, ⟨bU_ HB.out⟩⟩
   case rest =>
    clear HC28
    (try clear c1); (try clear c2); (try clear p2); (try clear c3); (try clear q3); (try clear c4); (try clear c7); (try clear c7b0); (try clear c7b1); (try clear c8); (try clear c8b0); (try clear c8b1); (try clear c12); (try clear c12b0); (try clear c12b1); (try clear c13); (try clear c13b0); (try clear c13b1); (try clear c14); (try clear c14b0); (try clear c14b1); (try clear c15); (try clear c15b0); (try clear c15b1); (try clear c17); (try clear c17b0); (try clear c17b1); (try clear c18); (try clear c18b0); (try clear c18b1); (try clear c20); (try clear c20b0); (try clear c20b1); (try clear c21); (try clear c21b0); (try clear c21b1); (try clear c23); (try clear c23b0); (try clear c23b1); (try clear c24); (try clear c24b0); (try clear c24b1); (try clear c27); (try clear c27b0); (try clear c27b1); (try clear c28); (try clear c29); (try clear q37); (try clear q38); (try clear c41); (try clear c41b0); (try clear c41b1)
    obtain ⟨kq, HA, HJ27, HO_2, HO_3, HB⟩ := hcut
    cases kq with
    | zero => exact absurd HA.out (by simp [attestorlaw11_GapArguments.j0])
    | succ kj27 =>
     have H := HA.out
     clear HA
     simp only [attestorlaw11_GapArguments.j0] at H
     revert H
     refine bd2_ fun t1100 t1101 A42 H => ?_
     try dsimp only at H
     revert H
     refine bd2_ fun t1102 t1103 A43 H => ?_
     try dsimp only at H
     obtain ⟨c44, H⟩ : (t1100 = t1102) ∧ _ := it_ H
     have c44b0 := beq_iff_eq.mpr c44
     have c44b1 := bne_eq_false_iff_eq.mpr c44
     clear c44
     obtain ⟨c45, H⟩ : (t1101 = t1103) ∧ _ := it_ H
     have c45b0 := beq_iff_eq.mpr c45
     have c45b1 := bne_eq_false_iff_eq.mpr c45
     clear c45
     revert H
     refine bd2_ fun t1104 t1105 A46 H => ?_
     try dsimp only at H
     revert H
     refine bd2_ fun t1106 t1107 A47 H => ?_
     try dsimp only at H
     obtain ⟨c48, H⟩ : (t1104 = t1106) ∧ _ := it_ H
     have c48b0 := beq_iff_eq.mpr c48
     have c48b1 := bne_eq_false_iff_eq.mpr c48
     clear c48
     obtain ⟨c49, H⟩ : (t1105 = t1107) ∧ _ := it_ H
     have c49b0 := beq_iff_eq.mpr c49
     have c49b1 := bne_eq_false_iff_eq.mpr c49
     clear c49
     revert H
     refine bd_ fun t1108 A50 H => ?_
     obtain rfl := Option.some.inj H
     go_wp2_with (first | ((with_reducible refine gate_callee (f := 22) rfl ?_); refine gl_ (some 76) Tryd.func22 #[.int .i64 a0, .slice Ao34 y1089.length co34, .slice Ao35 y1092.length co35] ?_; (with_reducible refine (gap_Equal.calls kj27 a0 _ _ y1089 _ _ y1092 t1100 t1101 _ ?side1 ?side2 ?side3 ?side4 ?side5 A42.out).mono ?_); (case side1 => exact fU_ HG.out HB.out); (case side2 => exact cU_ ((Kd.S_reads' HO_2.out).2.2)); (case side3 => exact (Kd.S_reads' HO_2.out).2.1); (case side4 => exact cU_ ((Kd.S_reads' HO_3.out).2.2)); (case side5 => exact (Kd.S_reads' HO_3.out).2.1); rintro e w51 ⟨rfl, hb⟩; refine ⟨_, rfl, ?_⟩; refine nx3_ (Kd.S_below (by (with_reducible repeat (first | apply Kd.S_alloc | apply Kd.S_drewN | apply Kd.S_drew)); exact HO_2.out) hb) (Kd.S_below (by (with_reducible repeat (first | apply Kd.S_alloc | apply Kd.S_drewN | apply Kd.S_drew)); exact HO_3.out) hb) (below_step (bU_ HB.out) hb) ?_; clear HO_2 HO_3 HB; intro HO_2 HO_3 HB; clear hb) | ((with_reducible refine gate_callee (f := 30) rfl ?_); refine gl_ (some 83) Tryd.func30 #[.int .i64 a0, .slice Ao34 y1089.length co34, .slice Ao35 y1092.length co35] ?_; (with_reducible refine (attestorref11_Equal.calls kj27 a0 _ _ y1089 _ _ y1092 t1102 t1103 _ ?side1 ?side2 ?side3 ?side4 A43.out).mono ?_); (case side1 => exact cU_ ((Kd.S_reads' HO_2.out).2.2)); (case side2 => exact (Kd.S_reads' HO_2.out).2.1); (case side3 => exact cU_ ((Kd.S_reads' HO_3.out).2.2)); (case side4 => exact (Kd.S_reads' HO_3.out).2.1); rintro e w52 ⟨rfl, hb⟩; refine ⟨_, rfl, ?_⟩; refine nx3_ (Kd.S_below (by (with_reducible repeat (first | apply Kd.S_alloc | apply Kd.S_drewN | apply Kd.S_drew)); exact HO_2.out) hb) (Kd.S_below (by (with_reducible repeat (first | apply Kd.S_alloc | apply Kd.S_drewN | apply Kd.S_drew)); exact HO_3.out) hb) (below_step (bU_ HB.out) hb) ?_; clear HO_2 HO_3 HB; intro HO_2 HO_3 HB; clear hb) | ((with_reducible refine gate_callee (f := 26) rfl ?_); refine goesL_ (some 99) rfl rfl Tryd.func26 (by kernel_rfl) rfl #[.int .i64 a0, .slice Ao34 y1089.length co34, .slice Ao35 y1092.length co35, .slice A4 lx5.length c4] rfl (by (try simp only [List.map_toArray, List.map_cons, List.map_nil]); first | done | (rw [show lx5.length = (ji22).toNat from (by rw [List.length_take]; have h_ : ((ji22) : Int) ≤ (lx4.length : Int) := od_; omega)] <;> rfl) | (simp only [hji11, hji22]; rfl) | rfl | (simp only [List.length_drop, List.length_take]; rfl)) ?_; (with_reducible refine (gap_Found.calls kj27 a0 _ _ y1089 _ _ y1092 _ _ lx5 t1104 t1105 _ ?side1 ?side2 ?side3 ?side4 ?side5 ?side6 ?side7 A46.out).mono ?_); (case side1 => exact fU_ HG.out HB.out); (case side2 => exact cU_ ((Kd.S_reads' HO_2.out).2.2)); (case side3 => exact (Kd.S_reads' HO_2.out).2.1); (case side4 => exact cU_ ((Kd.S_reads' HO_3.out).2.2)); (case side5 => exact (Kd.S_reads' HO_3.out).2.1); (case side6 => exact cU_ (C_below HR1095.out HB.out)); (case side7 => exact HC1095.out); rintro e w53 ⟨rfl, hb⟩; refine ⟨_, rfl, ?_⟩; refine nx3_ (Kd.S_below (by (with_reducible repeat (first | apply Kd.S_alloc | apply Kd.S_drewN | apply Kd.S_drew)); exact HO_2.out) hb) (Kd.S_below (by (with_reducible repeat (first | apply Kd.S_alloc | apply Kd.S_drewN | apply Kd.S_drew)); exact HO_3.out) hb) (below_step (bU_ HB.out) hb) ?_; clear HO_2 HO_3 HB; intro HO_2 HO_3 HB; clear hb) | ((with_reducible refine gate_callee (f := 31) rfl ?_); refine goesL_ (some 107) rfl rfl Tryd.func31 (by kernel_rfl) rfl #[.int .i64 a0, .slice Ao34 y1089.length co34, .slice Ao35 y1092.length co35, .slice A4 lx5.length c4] rfl (by (try simp only [List.map_toArray, List.map_cons, List.map_nil]); first | done | (rw [show lx5.length = (ji22).toNat from (by rw [List.length_take]; have h_ : ((ji22) : Int) ≤ (lx4.length : Int) := od_; omega)] <;> rfl) | (simp only [hji11, hji22]; rfl) | rfl | (simp only [List.length_drop, List.length_take]; rfl)) ?_; (with_reducible refine (attestorref11_Found.calls kj27 a0 _ _ y1089 _ _ y1092 _ _ lx5 t1106 t1107 _ ?side1 ?side2 ?side3 ?side4 ?side5 ?side6 A47.out).mono ?_); (case side1 => exact cU_ ((Kd.S_reads' HO_2.out).2.2)); (case side2 => exact (Kd.S_reads' HO_2.out).2.1); (case side3 => exact cU_ ((Kd.S_reads' HO_3.out).2.2)); (case side4 => exact (Kd.S_reads' HO_3.out).2.1); (case side5 => exact cU_ (C_below HR1095.out HB.out)); (case side6 => exact HC1095.out); rintro e w54 ⟨rfl, hb⟩; refine ⟨_, rfl, ?_⟩; refine nx3_ (Kd.S_below (by (with_reducible repeat (first | apply Kd.S_alloc | apply Kd.S_drewN | apply Kd.S_drew)); exact HO_2.out) hb) (Kd.S_below (by (with_reducible repeat (first | apply Kd.S_alloc | apply Kd.S_drewN | apply Kd.S_drew)); exact HO_3.out) hb) (below_step (bU_ HB.out) hb) ?_; clear HO_2 HO_3 HB; intro HO_2 HO_3 HB; clear hb) | (go_at_call 16; (with_reducible refine (attestorlaw11_works.calls kj27  t1108 _ ?side1 A50.out).mono ?_); (case side1 => exact fU_ HG.out HB.out); rintro e w55 ⟨rfl, hb⟩; refine nx3_ (Kd.S_below (by (with_reducible repeat (first | apply Kd.S_alloc | apply Kd.S_drewN | apply Kd.S_drew)); exact HO_2.out) hb) (Kd.S_below (by (with_reducible repeat (first | apply Kd.S_alloc | apply Kd.S_drewN | apply Kd.S_drew)); exact HO_3.out) hb) (below_step (bU_ HB.out) hb) ?_; clear HO_2 HO_3 HB; intro HO_2 HO_3 HB; clear hb))
     go_ret
     exact ⟨by first | rfl | (simp [errW_none, errW_some] <;> rfl) | (simp only [← hji6, ← hji11, ← hji16, ← hji19, ← hji22]; first | rfl | (simp [errW_none, errW_some] <;> rfl)) | (simp [*, errW_none, errW_some] <;> rfl), bU_ HB.out⟩
  rw [if_neg c15] at H
  have c15b0 := decide_eq_false c15
  have c15b1 : decide (t1085.length ≤ 32) = false := decide_eq_false (by omega)
  clear c15
  revert H
  refine bd2_ fun t1109 t1110 A56 H => ?_
  try dsimp only at H
  revert H
  refine bd2_ fun t1111 t1112 A57 H => ?_
  try dsimp only at H
  obtain ⟨c58, H⟩ : (t1109 = t1111) ∧ _ := it_ H
  have c58b0 := beq_iff_eq.mpr c58
  have c58b1 := bne_eq_false_iff_eq.mpr c58
  clear c58
  have HC59 := ak H
  clear H
  obtain ⟨i060, hi060, _, hsz60, _⟩ := info_parts info48
  obtain ⟨hcut60, hA60, hC60⟩ := print_take_of (P := Tryd.prog) (Value.int .u64) 0 35 48 .i64 Tryd.underlying35 hi060 hsz60 A1 c1 l1 (ji6) od_ od_ HC1.out
  have HR1081 := ak (C_of_reads (h1 := fun _ => rfl) (hA60 _ (Kd.reads_of_C HR1.out)))
  have HC1081 := ak hC60
  clear hA60 hC60 hi060 hsz60
  go_enter Tryd.func7, Tryd.ntmps7
  try go_wp2
  refine nx1_ (below_drew1 HB.out) ?_
  clear HB
  intro HB
  obtain ⟨i062, hi062, _, hsz62, _⟩ := info_parts info48
  obtain ⟨hcut62, hA62, hC62⟩ := print_take_of (P := Tryd.prog) (Value.int .u64) 0 35 48 .i64 Tryd.underlying35 hi062 hsz62 A4 c4 l4 (ji11) od_ od_ HC4.out
  rw [← Nlx4.out] at hcut62 hA62 hC62
  have HR1088 := ak (C_of_reads (h1 := fun _ => rfl) (hA62 _ (Kd.reads_of_C HR4.out)))
  have HC1088 := ak hC62
  clear hA62 hC62 hi062 hsz62
  refine start_ (n := 12) (S := fun w' => True) (ds := []) (bv 12 0) (by kernel_rfl) rfl rfl trivial (fun hHeld => ?_); refine with_tabW attestorlaw11_GapArguments.tab2 attestorlaw11_GapArguments.bits2 (fun HT_ HW_ => ?_)
  generalize w.drew = w61 at HB HR1088 hHeld ⊢
  refine pq_ 0 20 12 1 HT_.out ?_
  refine pq_ 2 22 12 5 HT_.out ?_
  refine pq_ 4 24 12 21 HT_.out ?_
  refine pq_ 5 25 12 53 HT_.out ?_
  refine pq_ 6 26 12 117 HT_.out ?_
  refine pq_ 7 27 12 245 HT_.out ?_
  refine pq_ 8 28 12 501 HT_.out ?_
  refine oq_ 1 21 12 503 HT_.out fun K hK => ?_
  refine gs_ Tryd.func28 #[.slice A2 l2.length c2, .int .i64 34, .int .i64 10] ?_
  with_reducible refine (attestorlaw11_columns.calls k _ _ l2 34 10 t1082 _ ?side1 ?side2 A9.out).mono ?_
  (case side1 => exact cU_ (C_below HR2.out HB.out))
  (case side2 => exact HC2.out)
  rintro e w63 ⟨v1083, rfl, ho0, hb⟩
  refine ⟨_, rfl, ?_⟩
  refine nx2_ (Kd.S_lower ho0 (below_size (bU_ HB.out))) (below_step (bU_ HB.out) hb) ?_
  clear HB
  intro HO1084 HB
  (try clear hb)
  (try clear hb2)
  (try clear hk)
  (try clear hi)
  (try clear ho0)
  refine hK.out _ _ trivial (fun hHeld => ?_)
  clear hK K
  refine norm_ (a' := ?_) ?_ ?_
  rotate_left
  ·show Act.put _ (some 21) _ = _
   simp only [Act.put, s1_, s2_, s3_, i64_w, i32_w]
   rfl
  refine oq_ 3 23 12 511 HT_.out fun K hK => ?_
  refine gs_ Tryd.func28 #[.slice A3 l3.length c3, .int .i64 34, .int .i64 10] ?_
  with_reducible refine (attestorlaw11_columns.calls k _ _ l3 34 10 t1085 _ ?side1 ?side2 A10.out).mono ?_
  (case side1 => exact cU_ (C_below HR3.out HB.out))
  (case side2 => exact HC3.out)
  rintro e w64 ⟨v1086, rfl, ho0, hb⟩
  refine ⟨_, rfl, ?_⟩
  refine nx3_ (Kd.S_elder' (by (with_reducible repeat (first | apply Kd.S_alloc | apply Kd.S_drewN | apply Kd.S_drew)); exact HO1084.out) (Kd.S_base ho0) hb) (Kd.S_lower (Kd.S_new' ho0 (Kd.S_lt (by (with_reducible repeat (first | apply Kd.S_alloc | apply Kd.S_drewN | apply Kd.S_drew)); exact HO1084.out))) (below_size (bU_ HB.out))) (below_step (bU_ HB.out) hb) ?_
  clear HO1084 HB
  intro HO1084 HO1087 HB
  (try clear hb)
  (try clear hb2)
  (try clear hk)
  (try clear hi)
  (try clear ho0)
  refine hK.out _ _ trivial (fun hHeld => ?_)
  clear hK K
  refine norm_ (a' := ?_) ?_ ?_
  rotate_left
  ·show Act.put _ (some 23) _ = _
   simp only [Act.put, s1_, s2_, s3_, i64_w, i32_w]
   rfl
  refine pq_ 9 2 12 1023 HT_.out ?_
  refine pq_ 10 3 12 2047 HT_.out ?_
  refine pq_ 11 4 12 4095 HT_.out ?_
  refine done_ (done_of HT_.out (by kernel_rfl)) ?_
  obtain ⟨Ao65, co65, eo65⟩ := Kd.S_slice HO1084.out
  subst eo65
  obtain ⟨Ao66, co66, eo66⟩ := Kd.S_slice HO1087.out
  subst eo66
  go_upto_if 71 with (first | ((with_reducible refine gate_callee (f := 18) rfl ?_); refine goesL_ (some 55) rfl rfl Tryd.func18 (by kernel_rfl) rfl #[.int .i64 a0, .slice A1 (l1.take ((ji6) : Int).toNat).length c1] rfl (by (try simp only [List.map_toArray, List.map_cons, List.map_nil]); first | done | (rw [show (l1.take ((ji6) : Int).toNat).length = (ji6).toNat from (by rw [List.length_take]; have h_ : ((ji6) : Int) ≤ (l1.length : Int) := od_; omega)] <;> rfl) | (simp only [hji6]; rfl) | rfl | (simp only [List.length_drop, List.length_take]; rfl)) ?_; (with_reducible refine (gap_Roots.calls k a0 _ _ (l1.take ((ji6) : Int).toNat) t1109 t1110 _ ?side1 ?side2 ?side3 A56.out).mono ?_); (case side1 => exact fU_ HG.out HB.out); (case side2 => exact cU_ (C_below HR1081.out HB.out)); (case side3 => exact HC1081.out); rintro e w67 ⟨rfl, hb⟩; refine ⟨_, rfl, ?_⟩; refine nx3_ (Kd.S_below (by (with_reducible repeat (first | apply Kd.S_alloc | apply Kd.S_drewN | apply Kd.S_drew)); exact HO1084.out) hb) (Kd.S_below (by (with_reducible repeat (first | apply Kd.S_alloc | apply Kd.S_drewN | apply Kd.S_drew)); exact HO1087.out) hb) (below_step (bU_ HB.out) hb) ?_; clear HO1084 HO1087 HB; intro HO1084 HO1087 HB; clear hb) | ((with_reducible refine gate_callee (f := 29) rfl ?_); refine goesL_ (some 61) rfl rfl Tryd.func29 (by kernel_rfl) rfl #[.int .i64 a0, .slice A1 (l1.take ((ji6) : Int).toNat).length c1] rfl (by (try simp only [List.map_toArray, List.map_cons, List.map_nil]); first | done | (rw [show (l1.take ((ji6) : Int).toNat).length = (ji6).toNat from (by rw [List.length_take]; have h_ : ((ji6) : Int) ≤ (l1.length : Int) := od_; omega)] <;> rfl) | (simp only [hji6]; rfl) | rfl | (simp only [List.length_drop, List.length_take]; rfl)) ?_; (with_reducible refine (attestorref11_Roots.calls k a0 _ _ (l1.take ((ji6) : Int).toNat) t1111 t1112 _ ?side1 ?side2 A57.out).mono ?_); (case side1 => exact cU_ (C_below HR1081.out HB.out)); (case side2 => exact HC1081.out); rintro e w' ⟨rfl, ⟨nd, rfl⟩⟩; refine ⟨_, rfl, ?_⟩))
  (try simp only [Act.put, s1_, s2_, s3_])
  go_cut [] (fun wc => ∃ (kq : Nat), Aside0 (attestorlaw11_GapArguments.j1 kq a0 t1082 t1085 lx4 = some r) ∧ Aside0 (kq ≤ k) ∧ Aside0 (Kd.S (Kd.slice 48 (Kd.int .u64)) 35 wc w.heap.size (fun k_ => some k_ ≠ ((.slice Ao66 t1085.length co66) : Value).ownBlock) (.slice Ao65 t1082.length co65) t1082) ∧ Aside0 (Kd.S (Kd.slice 48 (Kd.int .u64)) 35 wc w.heap.size (fun k_ => some k_ ≠ ((.slice Ao65 t1082.length co65) : Value).ownBlock) (.slice Ao66 t1085.length co66) t1085) ∧ Aside0 (Below w.heap.size w wc))
  case first =>
   have H := HC59.out
   clear HC59
   obtain ⟨c68, H⟩ : (t1110 = t1112) ∧ _ := it_ H
   have c68b0 := beq_iff_eq.mpr c68
   have c68b1 := bne_eq_false_iff_eq.mpr c68
   clear c68
   (first | rw [c68b0] | (simp only [i64_w, i32_w]; rw [c68b0]) | rw [c68b1] | skip)
   have H' := ak H
   clear H
   go_wp2
   go_meet
   case rel => exact ⟨_, H', ⟨by first | omega | exact Nat.le_refl _⟩, ⟨by (with_reducible repeat (first | apply Kd.S_alloc | apply Kd.S_drewN | apply Kd.S_drew)); exact Kd.S_mono HO1084.out (fun _ hk => hk.2)⟩, ⟨by (with_reducible repeat (first | apply Kd.S_alloc | apply Kd.S_drewN | apply Kd.S_drew)); exact Kd.S_mono HO1087.out (fun _ hk => hk.2)⟩, ⟨bU_ HB.out⟩⟩
  case rest =>
   clear HC59
   (try clear c1); (try clear c2); (try clear p2); (try clear c3); (try clear q3); (try clear c4); (try clear c5); (try clear c6); (try clear c7); (try clear c7b0); (try clear c7b1); (try clear c8); (try clear c8b0); (try clear c8b1); (try clear c12); (try clear c12b0); (try clear c12b1); (try clear c13); (try clear c13b0); (try clear c13b1); (try clear c14); (try clear c14b0); (try clear c14b1); (try clear c15); (try clear c15b0); (try clear c15b1); (try clear c17); (try clear c17b0); (try clear c17b1); (try clear c18); (try clear c18b0); (try clear c18b1); (try clear c20); (try clear c20b0); (try clear c20b1); (try clear c21); (try clear c21b0); (try clear c21b1); (try clear c22); (try clear c23); (try clear c23b0); (try clear c23b1); (try clear c24); (try clear c24b0); (try clear c24b1); (try clear c26); (try clear c27); (try clear c27b0); (try clear c27b1); (try clear c28); (try clear c29); (try clear c30); (try clear c31); (try clear q37); (try clear q38); (try clear c41); (try clear c41b0); (try clear c41b1); (try clear c44); (try clear c44b0); (try clear c44b1); (try clear c45); (try clear c45b0); (try clear c45b1); (try clear c48); (try clear c48b0); (try clear c48b1); (try clear c49); (try clear c49b0); (try clear c49b1); (try clear c58); (try clear c58b0); (try clear c58b1); (try clear c68); (try clear c68b0); (try clear c68b1)
   obtain ⟨kq, HA, HJ58, HO_2, HO_3, HB⟩ := hcut
   cases kq with
   | zero => exact absurd HA.out (by simp [attestorlaw11_GapArguments.j1])
   | succ kj58 =>
    have H := HA.out
    clear HA
    simp only [attestorlaw11_GapArguments.j1] at H
    revert H
    refine bd2_ fun t1113 t1114 A69 H => ?_
    try dsimp only at H
    revert H
    refine bd2_ fun t1115 t1116 A70 H => ?_
    try dsimp only at H
    obtain ⟨c71, H⟩ : (t1113 = t1115) ∧ _ := it_ H
    have c71b0 := beq_iff_eq.mpr c71
    have c71b1 := bne_eq_false_iff_eq.mpr c71
    clear c71
    obtain ⟨c72, H⟩ : (t1114 = t1116) ∧ _ := it_ H
    have c72b0 := beq_iff_eq.mpr c72
    have c72b1 := bne_eq_false_iff_eq.mpr c72
    clear c72
    revert H
    refine bd2_ fun t1117 t1118 A73 H => ?_
    try dsimp only at H
    revert H
    refine bd2_ fun t1119 t1120 A74 H => ?_
    try dsimp only at H
    obtain ⟨c75, H⟩ : (t1117 = t1119) ∧ _ := it_ H
    have c75b0 := beq_iff_eq.mpr c75
    have c75b1 := bne_eq_false_iff_eq.mpr c75
    clear c75
    obtain ⟨c76, H⟩ : (t1118 = t1120) ∧ _ := it_ H
    have c76b0 := beq_iff_eq.mpr c76
    have c76b1 := bne_eq_false_iff_eq.mpr c76
    clear c76
    revert H
    refine bd_ fun t1121 A77 H => ?_
    obtain rfl := Option.some.inj H
    go_wp2_with (first | ((with_reducible refine gate_callee (f := 22) rfl ?_); refine gl_ (some 76) Tryd.func22 #[.int .i64 a0, .slice Ao65 t1082.length co65, .slice Ao66 t1085.length co66] ?_; (with_reducible refine (gap_Equal.calls kj58 a0 _ _ t1082 _ _ t1085 t1113 t1114 _ ?side1 ?side2 ?side3 ?side4 ?side5 A69.out).mono ?_); (case side1 => exact fU_ HG.out HB.out); (case side2 => exact cU_ ((Kd.S_reads' HO_2.out).2.2)); (case side3 => exact (Kd.S_reads' HO_2.out).2.1); (case side4 => exact cU_ ((Kd.S_reads' HO_3.out).2.2)); (case side5 => exact (Kd.S_reads' HO_3.out).2.1); rintro e w78 ⟨rfl, hb⟩; refine ⟨_, rfl, ?_⟩; refine nx3_ (Kd.S_below (by (with_reducible repeat (first | apply Kd.S_alloc | apply Kd.S_drewN | apply Kd.S_drew)); exact HO_2.out) hb) (Kd.S_below (by (with_reducible repeat (first | apply Kd.S_alloc | apply Kd.S_drewN | apply Kd.S_drew)); exact HO_3.out) hb) (below_step (bU_ HB.out) hb) ?_; clear HO_2 HO_3 HB; intro HO_2 HO_3 HB; clear hb) | ((with_reducible refine gate_callee (f := 30) rfl ?_); refine gl_ (some 83) Tryd.func30 #[.int .i64 a0, .slice Ao65 t1082.length co65, .slice Ao66 t1085.length co66] ?_; (with_reducible refine (attestorref11_Equal.calls kj58 a0 _ _ t1082 _ _ t1085 t1115 t1116 _ ?side1 ?side2 ?side3 ?side4 A70.out).mono ?_); (case side1 => exact cU_ ((Kd.S_reads' HO_2.out).2.2)); (case side2 => exact (Kd.S_reads' HO_2.out).2.1); (case side3 => exact cU_ ((Kd.S_reads' HO_3.out).2.2)); (case side4 => exact (Kd.S_reads' HO_3.out).2.1); rintro e w79 ⟨rfl, hb⟩; refine ⟨_, rfl, ?_⟩; refine nx3_ (Kd.S_below (by (with_reducible repeat (first | apply Kd.S_alloc | apply Kd.S_drewN | apply Kd.S_drew)); exact HO_2.out) hb) (Kd.S_below (by (with_reducible repeat (first | apply Kd.S_alloc | apply Kd.S_drewN | apply Kd.S_drew)); exact HO_3.out) hb) (below_step (bU_ HB.out) hb) ?_; clear HO_2 HO_3 HB; intro HO_2 HO_3 HB; clear hb) | ((with_reducible refine gate_callee (f := 26) rfl ?_); refine goesL_ (some 99) rfl rfl Tryd.func26 (by kernel_rfl) rfl #[.int .i64 a0, .slice Ao65 t1082.length co65, .slice Ao66 t1085.length co66, .slice A4 lx4.length c4] rfl (by (try simp only [List.map_toArray, List.map_cons, List.map_nil]); first | done | (rw [show lx4.length = (ji11).toNat from (by rw [List.length_take]; have h_ : ((ji11) : Int) ≤ (l4.length : Int) := od_; omega)] <;> rfl) | (simp only [hji11]; rfl) | rfl | (simp only [List.length_drop, List.length_take]; rfl)) ?_; (with_reducible refine (gap_Found.calls kj58 a0 _ _ t1082 _ _ t1085 _ _ lx4 t1117 t1118 _ ?side1 ?side2 ?side3 ?side4 ?side5 ?side6 ?side7 A73.out).mono ?_); (case side1 => exact fU_ HG.out HB.out); (case side2 => exact cU_ ((Kd.S_reads' HO_2.out).2.2)); (case side3 => exact (Kd.S_reads' HO_2.out).2.1); (case side4 => exact cU_ ((Kd.S_reads' HO_3.out).2.2)); (case side5 => exact (Kd.S_reads' HO_3.out).2.1); (case side6 => exact cU_ (C_below HR1088.out HB.out)); (case side7 => exact HC1088.out); rintro e w80 ⟨rfl, hb⟩; refine ⟨_, rfl, ?_⟩; refine nx3_ (Kd.S_below (by (with_reducible repeat (first | apply Kd.S_alloc | apply Kd.S_drewN | apply Kd.S_drew)); exact HO_2.out) hb) (Kd.S_below (by (with_reducible repeat (first | apply Kd.S_alloc | apply Kd.S_drewN | apply Kd.S_drew)); exact HO_3.out) hb) (below_step (bU_ HB.out) hb) ?_; clear HO_2 HO_3 HB; intro HO_2 HO_3 HB; clear hb) | ((with_reducible refine gate_callee (f := 31) rfl ?_); refine goesL_ (some 107) rfl rfl Tryd.func31 (by kernel_rfl) rfl #[.int .i64 a0, .slice Ao65 t1082.length co65, .slice Ao66 t1085.length co66, .slice A4 lx4.length c4] rfl (by (try simp only [List.map_toArray, List.map_cons, List.map_nil]); first | done | (rw [show lx4.length = (ji11).toNat from (by rw [List.length_take]; have h_ : ((ji11) : Int) ≤ (l4.length : Int) := od_; omega)] <;> rfl) | (simp only [hji11]; rfl) | rfl | (simp only [List.length_drop, List.length_take]; rfl)) ?_; (with_reducible refine (attestorref11_Found.calls kj58 a0 _ _ t1082 _ _ t1085 _ _ lx4 t1119 t1120 _ ?side1 ?side2 ?side3 ?side4 ?side5 ?side6 A74.out).mono ?_); (case side1 => exact cU_ ((Kd.S_reads' HO_2.out).2.2)); (case side2 => exact (Kd.S_reads' HO_2.out).2.1); (case side3 => exact cU_ ((Kd.S_reads' HO_3.out).2.2)); (case side4 => exact (Kd.S_reads' HO_3.out).2.1); (case side5 => exact cU_ (C_below HR1088.out HB.out)); (case side6 => exact HC1088.out); rintro e w81 ⟨rfl, hb⟩; refine ⟨_, rfl, ?_⟩; refine nx3_ (Kd.S_below (by (with_reducible repeat (first | apply Kd.S_alloc | apply Kd.S_drewN | apply Kd.S_drew)); exact HO_2.out) hb) (Kd.S_below (by (with_reducible repeat (first | apply Kd.S_alloc | apply Kd.S_drewN | apply Kd.S_drew)); exact HO_3.out) hb) (below_step (bU_ HB.out) hb) ?_; clear HO_2 HO_3 HB; intro HO_2 HO_3 HB; clear hb) | (go_at_call 16; (with_reducible refine (attestorlaw11_works.calls kj58  t1121 _ ?side1 A77.out).mono ?_); (case side1 => exact fU_ HG.out HB.out); rintro e w82 ⟨rfl, hb⟩; refine nx3_ (Kd.S_below (by (with_reducible repeat (first | apply Kd.S_alloc | apply Kd.S_drewN | apply Kd.S_drew)); exact HO_2.out) hb) (Kd.S_below (by (with_reducible repeat (first | apply Kd.S_alloc | apply Kd.S_drewN | apply Kd.S_drew)); exact HO_3.out) hb) (below_step (bU_ HB.out) hb) ?_; clear HO_2 HO_3 HB; intro HO_2 HO_3 HB; clear hb))
    go_ret
    exact ⟨by first | rfl | (simp [errW_none, errW_some] <;> rfl) | (simp only [← hji6, ← hji11]; first | rfl | (simp [errW_none, errW_some] <;> rfl)) | (simp [*, errW_none, errW_some] <;> rfl), bU_ HB.out⟩
 rw [if_neg c14] at H
 have c14b0 := decide_eq_false c14
 have c14b1 : decide (t1082.length ≤ 32) = false := decide_eq_false (by omega)
 clear c14
 revert H
 refine bd2_ fun t1122 t1123 A83 H => ?_
 try dsimp only at H
 revert H
 refine bd2_ fun t1124 t1125 A84 H => ?_
 try dsimp only at H
 obtain ⟨c85, H⟩ : (t1122 = t1124) ∧ _ := it_ H
 have c85b0 := beq_iff_eq.mpr c85
 have c85b1 := bne_eq_false_iff_eq.mpr c85
 clear c85
 have HC86 := ak H
 clear H
 obtain ⟨i087, hi087, _, hsz87, _⟩ := info_parts info48
 obtain ⟨hcut87, hA87, hC87⟩ := print_take_of (P := Tryd.prog) (Value.int .u64) 0 35 48 .i64 Tryd.underlying35 hi087 hsz87 A1 c1 l1 (ji6) od_ od_ HC1.out
 have HR1081 := ak (C_of_reads (h1 := fun _ => rfl) (hA87 _ (Kd.reads_of_C HR1.out)))
 have HC1081 := ak hC87
 clear hA87 hC87 hi087 hsz87
 go_enter Tryd.func7, Tryd.ntmps7
 try go_wp2
 refine nx1_ (below_drew1 HB.out) ?_
 clear HB
 intro HB
 obtain ⟨i089, hi089, _, hsz89, _⟩ := info_parts info48
 obtain ⟨hcut89, hA89, hC89⟩ := print_take_of (P := Tryd.prog) (Value.int .u64) 0 35 48 .i64 Tryd.underlying35 hi089 hsz89 A4 c4 l4 (ji11) od_ od_ HC4.out
 rw [← Nlx4.out] at hcut89 hA89 hC89
 have HR1088 := ak (C_of_reads (h1 := fun _ => rfl) (hA89 _ (Kd.reads_of_C HR4.out)))
 have HC1088 := ak hC89
 clear hA89 hC89 hi089 hsz89
 refine start_ (n := 12) (S := fun w' => True) (ds := []) (bv 12 0) (by kernel_rfl) rfl rfl trivial (fun hHeld => ?_); refine with_tabW attestorlaw11_GapArguments.tab2 attestorlaw11_GapArguments.bits2 (fun HT_ HW_ => ?_)
 generalize w.drew = w88 at HB HR1088 hHeld ⊢
 refine pq_ 0 20 12 1 HT_.out ?_
 refine pq_ 2 22 12 5 HT_.out ?_
 refine pq_ 4 24 12 21 HT_.out ?_
 refine pq_ 5 25 12 53 HT_.out ?_
 refine pq_ 6 26 12 117 HT_.out ?_
 refine pq_ 7 27 12 245 HT_.out ?_
 refine pq_ 8 28 12 501 HT_.out ?_
 refine oq_ 1 21 12 503 HT_.out fun K hK => ?_
 refine gs_ Tryd.func28 #[.slice A2 l2.length c2, .int .i64 34, .int .i64 10] ?_
 with_reducible refine (attestorlaw11_columns.calls k _ _ l2 34 10 t1082 _ ?side1 ?side2 A9.out).mono ?_
 (case side1 => exact cU_ (C_below HR2.out HB.out))
 (case side2 => exact HC2.out)
 rintro e w90 ⟨v1083, rfl, ho0, hb⟩
 refine ⟨_, rfl, ?_⟩
 refine nx2_ (Kd.S_lower ho0 (below_size (bU_ HB.out))) (below_step (bU_ HB.out) hb) ?_
 clear HB
 intro HO1084 HB
 (try clear hb)
 (try clear hb2)
 (try clear hk)
 (try clear hi)
 (try clear ho0)
 refine hK.out _ _ trivial (fun hHeld => ?_)
 clear hK K
 refine norm_ (a' := ?_) ?_ ?_
 rotate_left
 ·show Act.put _ (some 21) _ = _
  simp only [Act.put, s1_, s2_, s3_, i64_w, i32_w]
  rfl
 refine oq_ 3 23 12 511 HT_.out fun K hK => ?_
 refine gs_ Tryd.func28 #[.slice A3 l3.length c3, .int .i64 34, .int .i64 10] ?_
 with_reducible refine (attestorlaw11_columns.calls k _ _ l3 34 10 t1085 _ ?side1 ?side2 A10.out).mono ?_
 (case side1 => exact cU_ (C_below HR3.out HB.out))
 (case side2 => exact HC3.out)
 rintro e w91 ⟨v1086, rfl, ho0, hb⟩
 refine ⟨_, rfl, ?_⟩
 refine nx3_ (Kd.S_elder' (by (with_reducible repeat (first | apply Kd.S_alloc | apply Kd.S_drewN | apply Kd.S_drew)); exact HO1084.out) (Kd.S_base ho0) hb) (Kd.S_lower (Kd.S_new' ho0 (Kd.S_lt (by (with_reducible repeat (first | apply Kd.S_alloc | apply Kd.S_drewN | apply Kd.S_drew)); exact HO1084.out))) (below_size (bU_ HB.out))) (below_step (bU_ HB.out) hb) ?_
 clear HO1084 HB
 intro HO1084 HO1087 HB
 (try clear hb)
 (try clear hb2)
 (try clear hk)
 (try clear hi)
 (try clear ho0)
 refine hK.out _ _ trivial (fun hHeld => ?_)
 clear hK K
 refine norm_ (a' := ?_) ?_ ?_
 rotate_left
 ·show Act.put _ (some 23) _ = _
  simp only [Act.put, s1_, s2_, s3_, i64_w, i32_w]
  rfl
 refine pq_ 9 2 12 1023 HT_.out ?_
 refine pq_ 10 3 12 2047 HT_.out ?_
 refine pq_ 11 4 12 4095 HT_.out ?_
 refine done_ (done_of HT_.out (by kernel_rfl)) ?_
 obtain ⟨Ao92, co92, eo92⟩ := Kd.S_slice HO1084.out
 subst eo92
 go_upto_if 71 with (first | ((with_reducible refine gate_callee (f := 18) rfl ?_); refine goesL_ (some 55) rfl rfl Tryd.func18 (by kernel_rfl) rfl #[.int .i64 a0, .slice A1 (l1.take ((ji6) : Int).toNat).length c1] rfl (by (try simp only [List.map_toArray, List.map_cons, List.map_nil]); first | done | (rw [show (l1.take ((ji6) : Int).toNat).length = (ji6).toNat from (by rw [List.length_take]; have h_ : ((ji6) : Int) ≤ (l1.length : Int) := od_; omega)] <;> rfl) | (simp only [hji6]; rfl) | rfl | (simp only [List.length_drop, List.length_take]; rfl)) ?_; (with_reducible refine (gap_Roots.calls k a0 _ _ (l1.take ((ji6) : Int).toNat) t1122 t1123 _ ?side1 ?side2 ?side3 A83.out).mono ?_); (case side1 => exact fU_ HG.out HB.out); (case side2 => exact cU_ (C_below HR1081.out HB.out)); (case side3 => exact HC1081.out); rintro e w93 ⟨rfl, hb⟩; refine ⟨_, rfl, ?_⟩; refine nx3_ (Kd.S_below (by (with_reducible repeat (first | apply Kd.S_alloc | apply Kd.S_drewN | apply Kd.S_drew)); exact HO1084.out) hb) (Kd.S_below (by (with_reducible repeat (first | apply Kd.S_alloc | apply Kd.S_drewN | apply Kd.S_drew)); exact HO1087.out) hb) (below_step (bU_ HB.out) hb) ?_; clear HO1084 HO1087 HB; intro HO1084 HO1087 HB; clear hb) | ((with_reducible refine gate_callee (f := 29) rfl ?_); refine goesL_ (some 61) rfl rfl Tryd.func29 (by kernel_rfl) rfl #[.int .i64 a0, .slice A1 (l1.take ((ji6) : Int).toNat).length c1] rfl (by (try simp only [List.map_toArray, List.map_cons, List.map_nil]); first | done | (rw [show (l1.take ((ji6) : Int).toNat).length = (ji6).toNat from (by rw [List.length_take]; have h_ : ((ji6) : Int) ≤ (l1.length : Int) := od_; omega)] <;> rfl) | (simp only [hji6]; rfl) | rfl | (simp only [List.length_drop, List.length_take]; rfl)) ?_; (with_reducible refine (attestorref11_Roots.calls k a0 _ _ (l1.take ((ji6) : Int).toNat) t1124 t1125 _ ?side1 ?side2 A84.out).mono ?_); (case side1 => exact cU_ (C_below HR1081.out HB.out)); (case side2 => exact HC1081.out); rintro e w' ⟨rfl, ⟨nd, rfl⟩⟩; refine ⟨_, rfl, ?_⟩))
 (try simp only [Act.put, s1_, s2_, s3_])
 go_cut [] (fun wc => ∃ (kq : Nat), Aside0 (attestorlaw11_GapArguments.j2 kq a0 t1082 t1085 lx4 = some r) ∧ Aside0 (kq ≤ k) ∧ Aside0 (Kd.S (Kd.slice 48 (Kd.int .u64)) 35 wc w.heap.size (fun k_ => some k_ ≠ (v1086 : Value).ownBlock) (.slice Ao92 t1082.length co92) t1082) ∧ Aside0 (Kd.S (Kd.slice 48 (Kd.int .u64)) 35 wc w.heap.size (fun k_ => some k_ ≠ ((.slice Ao92 t1082.length co92) : Value).ownBlock) v1086 t1085) ∧ Aside0 (Below w.heap.size w wc))
 case first =>
  have H := HC86.out
  clear HC86
  obtain ⟨c94, H⟩ : (t1123 = t1125) ∧ _ := it_ H
  have c94b0 := beq_iff_eq.mpr c94
  have c94b1 := bne_eq_false_iff_eq.mpr c94
  clear c94
  (first | rw [c94b0] | (simp only [i64_w, i32_w]; rw [c94b0]) | rw [c94b1] | skip)
  have H' := ak H
  clear H
  go_wp2
  go_meet
  case rel => exact ⟨_, H', ⟨by first | omega | exact Nat.le_refl _⟩, ⟨by (with_reducible repeat (first | apply Kd.S_alloc | apply Kd.S_drewN | apply Kd.S_drew)); exact Kd.S_mono HO1084.out (fun _ hk => hk.2)⟩, ⟨by (with_reducible repeat (first | apply Kd.S_alloc | apply Kd.S_drewN | apply Kd.S_drew)); exact Kd.S_mono HO1087.out (fun _ hk => hk.2)⟩, ⟨bU_ HB.out⟩⟩
 case rest =>
  clear HC86
  (try clear c1); (try clear c2); (try clear p2); (try clear c3); (try clear q3); (try clear c4); (try clear c5); (try clear c6); (try clear c7); (try clear c7b0); (try clear c7b1); (try clear c8); (try clear c8b0); (try clear c8b1); (try clear c9); (try clear c12); (try clear c12b0); (try clear c12b1); (try clear c13); (try clear c13b0); (try clear c13b1); (try clear c14); (try clear c14b0); (try clear c14b1); (try clear c15); (try clear c15b0); (try clear c15b1); (try clear c17); (try clear c17b0); (try clear c17b1); (try clear c18); (try clear c18b0); (try clear c18b1); (try clear c20); (try clear c20b0); (try clear c20b1); (try clear c21); (try clear c21b0); (try clear c21b1); (try clear c22); (try clear c23); (try clear c23b0); (try clear c23b1); (try clear c24); (try clear c24b0); (try clear c24b1); (try clear c26); (try clear c27); (try clear c27b0); (try clear c27b1); (try clear c28); (try clear c29); (try clear c30); (try clear c31); (try clear q37); (try clear q38); (try clear c41); (try clear c41b0); (try clear c41b1); (try clear c44); (try clear c44b0); (try clear c44b1); (try clear c45); (try clear c45b0); (try clear c45b1); (try clear c48); (try clear c48b0); (try clear c48b1); (try clear c49); (try clear c49b0); (try clear c49b1); (try clear c58); (try clear c58b0); (try clear c58b1); (try clear c68); (try clear c68b0); (try clear c68b1); (try clear c71); (try clear c71b0); (try clear c71b1); (try clear c72); (try clear c72b0); (try clear c72b1); (try clear c75); (try clear c75b0); (try clear c75b1); (try clear c76); (try clear c76b0); (try clear c76b1); (try clear c85); (try clear c85b0); (try clear c85b1); (try clear c94); (try clear c94b0); (try clear c94b1)
  obtain ⟨kq, HA, HJ85, HO_2, HO_3, HB⟩ := hcut
  cases kq with
  | zero => exact absurd HA.out (by simp [attestorlaw11_GapArguments.j2])
  | succ kj85 =>
   have H := HA.out
   clear HA
   simp only [attestorlaw11_GapArguments.j2] at H
   revert H
   refine bd2_ fun t1126 t1127 A95 H => ?_
   try dsimp only at H
   revert H
   refine bd2_ fun t1128 t1129 A96 H => ?_
   try dsimp only at H
   obtain ⟨c97, H⟩ : (t1126 = t1128) ∧ _ := it_ H
   have c97b0 := beq_iff_eq.mpr c97
   have c97b1 := bne_eq_false_iff_eq.mpr c97
   clear c97
   obtain ⟨c98, H⟩ : (t1127 = t1129) ∧ _ := it_ H
   have c98b0 := beq_iff_eq.mpr c98
   have c98b1 := bne_eq_false_iff_eq.mpr c98
   clear c98
   revert H
   refine bd2_ fun t1130 t1131 A99 H => ?_
   try dsimp only at H
   revert H
   refine bd2_ fun t1132 t1133 A100 H => ?_
   try dsimp only at H
   obtain ⟨c101, H⟩ : (t1130 = t1132) ∧ _ := it_ H
   have c101b0 := beq_iff_eq.mpr c101
   have c101b1 := bne_eq_false_iff_eq.mpr c101
   clear c101
   obtain ⟨c102, H⟩ : (t1131 = t1133) ∧ _ := it_ H
   have c102b0 := beq_iff_eq.mpr c102
   have c102b1 := bne_eq_false_iff_eq.mpr c102
   clear c102
   revert H
   refine bd_ fun t1134 A103 H => ?_
   obtain rfl := Option.some.inj H
   obtain ⟨Ao104, co104, eo104⟩ := Kd.S_slice HO_3.out
   subst eo104
   go_wp2_with (first | ((with_reducible refine gate_callee (f := 22) rfl ?_); refine gl_ (some 76) Tryd.func22 #[.int .i64 a0, .slice Ao92 t1082.length co92, .slice Ao104 t1085.length co104] ?_; (with_reducible refine (gap_Equal.calls kj85 a0 _ _ t1082 _ _ t1085 t1126 t1127 _ ?side1 ?side2 ?side3 ?side4 ?side5 A95.out).mono ?_); (case side1 => exact fU_ HG.out HB.out); (case side2 => exact cU_ ((Kd.S_reads' HO_2.out).2.2)); (case side3 => exact (Kd.S_reads' HO_2.out).2.1); (case side4 => exact cU_ ((Kd.S_reads' HO_3.out).2.2)); (case side5 => exact (Kd.S_reads' HO_3.out).2.1); rintro e w105 ⟨rfl, hb⟩; refine ⟨_, rfl, ?_⟩; refine nx3_ (Kd.S_below (by (with_reducible repeat (first | apply Kd.S_alloc | apply Kd.S_drewN | apply Kd.S_drew)); exact HO_2.out) hb) (Kd.S_below (by (with_reducible repeat (first | apply Kd.S_alloc | apply Kd.S_drewN | apply Kd.S_drew)); exact HO_3.out) hb) (below_step (bU_ HB.out) hb) ?_; clear HO_2 HO_3 HB; intro HO_2 HO_3 HB; clear hb) | ((with_reducible refine gate_callee (f := 30) rfl ?_); refine gl_ (some 83) Tryd.func30 #[.int .i64 a0, .slice Ao92 t1082.length co92, .slice Ao104 t1085.length co104] ?_; (with_reducible refine (attestorref11_Equal.calls kj85 a0 _ _ t1082 _ _ t1085 t1128 t1129 _ ?side1 ?side2 ?side3 ?side4 A96.out).mono ?_); (case side1 => exact cU_ ((Kd.S_reads' HO_2.out).2.2)); (case side2 => exact (Kd.S_reads' HO_2.out).2.1); (case side3 => exact cU_ ((Kd.S_reads' HO_3.out).2.2)); (case side4 => exact (Kd.S_reads' HO_3.out).2.1); rintro e w106 ⟨rfl, hb⟩; refine ⟨_, rfl, ?_⟩; refine nx3_ (Kd.S_below (by (with_reducible repeat (first | apply Kd.S_alloc | apply Kd.S_drewN | apply Kd.S_drew)); exact HO_2.out) hb) (Kd.S_below (by (with_reducible repeat (first | apply Kd.S_alloc | apply Kd.S_drewN | apply Kd.S_drew)); exact HO_3.out) hb) (below_step (bU_ HB.out) hb) ?_; clear HO_2 HO_3 HB; intro HO_2 HO_3 HB; clear hb) | ((with_reducible refine gate_callee (f := 26) rfl ?_); refine goesL_ (some 99) rfl rfl Tryd.func26 (by kernel_rfl) rfl #[.int .i64 a0, .slice Ao92 t1082.length co92, .slice Ao104 t1085.length co104, .slice A4 lx4.length c4] rfl (by (try simp only [List.map_toArray, List.map_cons, List.map_nil]); first | done | (rw [show lx4.length = (ji11).toNat from (by rw [List.length_take]; have h_ : ((ji11) : Int) ≤ (l4.length : Int) := od_; omega)] <;> rfl) | (simp only [hji11]; rfl) | rfl | (simp only [List.length_drop, List.length_take]; rfl)) ?_; (with_reducible refine (gap_Found.calls kj85 a0 _ _ t1082 _ _ t1085 _ _ lx4 t1130 t1131 _ ?side1 ?side2 ?side3 ?side4 ?side5 ?side6 ?side7 A99.out).mono ?_); (case side1 => exact fU_ HG.out HB.out); (case side2 => exact cU_ ((Kd.S_reads' HO_2.out).2.2)); (case side3 => exact (Kd.S_reads' HO_2.out).2.1); (case side4 => exact cU_ ((Kd.S_reads' HO_3.out).2.2)); (case side5 => exact (Kd.S_reads' HO_3.out).2.1); (case side6 => exact cU_ (C_below HR1088.out HB.out)); (case side7 => exact HC1088.out); rintro e w107 ⟨rfl, hb⟩; refine ⟨_, rfl, ?_⟩; refine nx3_ (Kd.S_below (by (with_reducible repeat (first | apply Kd.S_alloc | apply Kd.S_drewN | apply Kd.S_drew)); exact HO_2.out) hb) (Kd.S_below (by (with_reducible repeat (first | apply Kd.S_alloc | apply Kd.S_drewN | apply Kd.S_drew)); exact HO_3.out) hb) (below_step (bU_ HB.out) hb) ?_; clear HO_2 HO_3 HB; intro HO_2 HO_3 HB; clear hb) | ((with_reducible refine gate_callee (f := 31) rfl ?_); refine goesL_ (some 107) rfl rfl Tryd.func31 (by kernel_rfl) rfl #[.int .i64 a0, .slice Ao92 t1082.length co92, .slice Ao104 t1085.length co104, .slice A4 lx4.length c4] rfl (by (try simp only [List.map_toArray, List.map_cons, List.map_nil]); first | done | (rw [show lx4.length = (ji11).toNat from (by rw [List.length_take]; have h_ : ((ji11) : Int) ≤ (l4.length : Int) := od_; omega)] <;> rfl) | (simp only [hji11]; rfl) | rfl | (simp only [List.length_drop, List.length_take]; rfl)) ?_; (with_reducible refine (attestorref11_Found.calls kj85 a0 _ _ t1082 _ _ t1085 _ _ lx4 t1132 t1133 _ ?side1 ?side2 ?side3 ?side4 ?side5 ?side6 A100.out).mono ?_); (case side1 => exact cU_ ((Kd.S_reads' HO_2.out).2.2)); (case side2 => exact (Kd.S_reads' HO_2.out).2.1); (case side3 => exact cU_ ((Kd.S_reads' HO_3.out).2.2)); (case side4 => exact (Kd.S_reads' HO_3.out).2.1); (case side5 => exact cU_ (C_below HR1088.out HB.out)); (case side6 => exact HC1088.out); rintro e w108 ⟨rfl, hb⟩; refine ⟨_, rfl, ?_⟩; refine nx3_ (Kd.S_below (by (with_reducible repeat (first | apply Kd.S_alloc | apply Kd.S_drewN | apply Kd.S_drew)); exact HO_2.out) hb) (Kd.S_below (by (with_reducible repeat (first | apply Kd.S_alloc | apply Kd.S_drewN | apply Kd.S_drew)); exact HO_3.out) hb) (below_step (bU_ HB.out) hb) ?_; clear HO_2 HO_3 HB; intro HO_2 HO_3 HB; clear hb) | (go_at_call 16; (with_reducible refine (attestorlaw11_works.calls kj85  t1134 _ ?side1 A103.out).mono ?_); (case side1 => exact fU_ HG.out HB.out); rintro e w109 ⟨rfl, hb⟩; refine nx3_ (Kd.S_below (by (with_reducible repeat (first | apply Kd.S_alloc | apply Kd.S_drewN | apply Kd.S_drew)); exact HO_2.out) hb) (Kd.S_below (by (with_reducible repeat (first | apply Kd.S_alloc | apply Kd.S_drewN | apply Kd.S_drew)); exact HO_3.out) hb) (below_step (bU_ HB.out) hb) ?_; clear HO_2 HO_3 HB; intro HO_2 HO_3 HB; clear hb))
   go_ret
   exact ⟨by first | rfl | (simp [errW_none, errW_some] <;> rfl) | (simp only [← hji6, ← hji11]; first | rfl | (simp [errW_none, errW_some] <;> rfl)) | (simp [*, errW_none, errW_some] <;> rfl), bU_ HB.out⟩

end Go.Proofs.YtbjeemlbjkmhiaaDoor.Q

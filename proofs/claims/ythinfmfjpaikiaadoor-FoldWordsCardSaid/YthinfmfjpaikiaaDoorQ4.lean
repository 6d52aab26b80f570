import Derived.Test.YthinfmfjpaikiaaDoorQ0
namespace Go.Proofs.YthinfmfjpaikiaaDoor.Q
open Go.RowKit Go.Proofs.YthinfmfjpaikiaaDoorW.PrintWords Go.Proofs.YthinfmfjpaikiaaDoorW.PrintLast Go.Proofs.YthinfmfjpaikiaaDoorW.PrintMore
open Kd (R_slice R_reads')
attribute [local go_sem] max2_int min2_int max_two min_two max_three min_three max_four min_four   -- for this text's walks alone
set_option linter.unusedVariables false
set_option linter.unusedSimpArgs false

def attestorref01_Valid.f (a0 : Int) : Option (Bool) := if a0 ≥ 0 then (some (decide (a0 ≤ 3))) else (some false)
set_option maxHeartbeats 8000000 in
set_option maxRecDepth 100000 in
theorem attestorref01_Valid.calls (a0 : Int) (r : Bool) (w : World) (h : attestorref01_Valid.f a0 = some r) :
  Calls Tryd.prog 66 #[.int .i64 a0] w fun e w' => e = .returned (.bool r) ∧ Drawn0 w w' := by
 have H : (if a0 ≥ 0 then (some (decide (a0 ≤ 3))) else (some false)) = some r := h
 clear h
 by_cases c2 : a0 ≥ 0
 ·rw [if_pos c2] at H
  have c2b0 : decide (0 ≤ a0) = true := decide_eq_true c2
  clear c2
  obtain rfl := Option.some.inj H
  go_enter Tryd.func66, Tryd.ntmps66
  go_wp2
  go_ret
  exact ⟨by first | rfl | (simp; done) | (simp [*]; done), by repeat (first | exact Drawn0.refl _ | apply Drawn0.step)⟩
 rw [if_neg c2] at H
 have c2b0 : decide (0 ≤ a0) = false := decide_eq_false c2
 clear c2
 obtain rfl := Option.some.inj H
 go_enter Tryd.func66, Tryd.ntmps66
 go_wp2
 go_ret
 exact ⟨by first | rfl | (simp; done) | (simp [*]; done), by repeat (first | exact Drawn0.refl _ | apply Drawn0.step)⟩

def attestorref01_Twos.f (a0 : Int) : Option (Int) := if a0 = 0 then (some 5) else (if a0 = 1 then (some 8) else (if a0 = 2 then (some 12) else (if a0 = 3 then (some 23) else (some 0))))
set_option maxHeartbeats 8000000 in
set_option maxRecDepth 100000 in
theorem attestorref01_Twos.calls (a0 : Int) (r : Int) (w : World) (h : attestorref01_Twos.f a0 = some r) :
  Calls Tryd.prog 69 #[.int .i64 a0] w fun e w' => e = .returned (.int .i64 r) ∧ Drawn0 w w' := by
 have H := h
 clear h
 unfold attestorref01_Twos.f at H
 by_cases c2 : a0 = 0
 ·rw [if_pos c2] at H
  have c2b0 := beq_iff_eq.mpr c2
  have c2b1 := bne_eq_false_iff_eq.mpr c2
  clear c2
  obtain rfl := Option.some.inj H
  go_enter Tryd.func69, Tryd.ntmps69
  go_wp2
  go_ret
  exact ⟨by first | rfl | (simp; done) | (simp [*]; done), by repeat (first | exact Drawn0.refl _ | apply Drawn0.step)⟩
 rw [if_neg c2] at H
 have c2b0 := beq_eq_false_iff_ne.mpr c2
 have c2b1 := bne_iff_ne.mpr c2
 by_cases c3 : a0 = 1
 ·rw [if_pos c3] at H
  have c3b0 := beq_iff_eq.mpr c3
  have c3b1 := bne_eq_false_iff_eq.mpr c3
  clear c3
  obtain rfl := Option.some.inj H
  go_enter Tryd.func69, Tryd.ntmps69
  go_wp2
  go_ret
  exact ⟨by first | rfl | (simp; done) | (simp [*]; done), by repeat (first | exact Drawn0.refl _ | apply Drawn0.step)⟩
 rw [if_neg c3] at H
 have c3b0 := beq_eq_false_iff_ne.mpr c3
 have c3b1 := bne_iff_ne.mpr c3
 by_cases c4 : a0 = 2
 ·rw [if_pos c4] at H
  have c4b0 := beq_iff_eq.mpr c4
  have c4b1 := bne_eq_false_iff_eq.mpr c4
  clear c4
  obtain rfl := Option.some.inj H
  go_enter Tryd.func69, Tryd.ntmps69
  go_wp2
  go_ret
  exact ⟨by first | rfl | (simp; done) | (simp [*]; done), by repeat (first | exact Drawn0.refl _ | apply Drawn0.step)⟩
 rw [if_neg c4] at H
 have c4b0 := beq_eq_false_iff_ne.mpr c4
 have c4b1 := bne_iff_ne.mpr c4
 by_cases c5 : a0 = 3
 ·rw [if_pos c5] at H
  have c5b0 := beq_iff_eq.mpr c5
  have c5b1 := bne_eq_false_iff_eq.mpr c5
  clear c5
  obtain rfl := Option.some.inj H
  go_enter Tryd.func69, Tryd.ntmps69
  go_wp2
  go_ret
  exact ⟨by first | rfl | (simp; done) | (simp [*]; done), by repeat (first | exact Drawn0.refl _ | apply Drawn0.step)⟩
 rw [if_neg c5] at H
 have c5b0 := beq_eq_false_iff_ne.mpr c5
 have c5b1 := bne_iff_ne.mpr c5
 obtain rfl := Option.some.inj H
 go_enter Tryd.func69, Tryd.ntmps69
 go_wp2
 go_ret
 exact ⟨by first | rfl | (simp; done) | (simp [*]; done), by repeat (first | exact Drawn0.refl _ | apply Drawn0.step)⟩

def attestorref04_Greatest.f (a0 : Int) : Option (Int) := (attestorref01_Twos.f a0).bind fun t117 => (some (mn t117 18))
set_option maxHeartbeats 8000000 in
set_option maxRecDepth 100000 in
theorem attestorref04_Greatest.calls (a0 : Int) (r : Int) (w : World) (h : attestorref04_Greatest.f a0 = some r) :
  Calls Tryd.prog 67 #[.int .i64 a0] w fun e w' => e = .returned (.int .i64 r) ∧ Below w.heap.size w w' := by
 have HB := ak (Below.refl w.heap.size w)
 have H : ((attestorref01_Twos.f a0).bind fun t117 => (some (mn t117 18))) = some r := h
 clear h
 revert H
 refine bd_ fun t117 A2 H => ?_
 obtain ⟨ji3, hji3⟩ : ∃ j_ : Int, (mn t117 18) = j_ := ⟨_, rfl⟩
 first | rw [hji3] at H | simp only [hji3] at H
 (try rw [hji3] at A2)
 (try (have hji3h : ji3 ≤ 18 := by (rw [← hji3]; unfold mn; (repeat' split) <;> omega)))
 (try (have hji3g : ji3 ≤ 64 := by omega))
 have hji3_ : (if 18 < t117 then 18 else t117) = ji3 := hji3
 obtain rfl := Option.some.inj H
 go_enter Tryd.func67, Tryd.ntmps67
 go_wp2_with (first | ((with_reducible refine gate_callee (f := 69) rfl ?_); refine gl_ (some 4) Tryd.func69 #[.int .i64 a0] ?_; (with_reducible refine (attestorref01_Twos.calls a0 t117 _ A2.out).mono ?_); rintro e w' ⟨rfl, ⟨nd, rfl⟩⟩; refine ⟨_, rfl, ?_⟩))
 go_ret
 exact ⟨by first | rfl | (simp [errW_none, errW_some] <;> rfl) | (simp only [← hji3]; first | rfl | (simp [errW_none, errW_some] <;> rfl)) | (simp [*, errW_none, errW_some] <;> rfl), bU_ HB.out⟩

def attestorref01_P.f (a0 : Int) : Option (Int) := if a0 = 0 then (some 97) else (if a0 = 1 then (some 257) else (if a0 = 2 then (some 12289) else (if a0 = 3 then (some 998244353) else (some 0))))
set_option maxHeartbeats 8000000 in
set_option maxRecDepth 100000 in
theorem attestorref01_P.calls (a0 : Int) (r : Int) (w : World) (h : attestorref01_P.f a0 = some r) :
  Calls Tryd.prog 68 #[.int .i64 a0] w fun e w' => e = .returned (.int .u64 r) ∧ Drawn0 w w' := by
 have H := h
 clear h
 unfold attestorref01_P.f at H
 by_cases c2 : a0 = 0
 ·rw [if_pos c2] at H
  have c2b0 := beq_iff_eq.mpr c2
  have c2b1 := bne_eq_false_iff_eq.mpr c2
  clear c2
  obtain rfl := Option.some.inj H
  go_enter Tryd.func68, Tryd.ntmps68
  go_wp2
  go_ret
  exact ⟨by first | rfl | (simp; done) | (simp [*]; done), by repeat (first | exact Drawn0.refl _ | apply Drawn0.step)⟩
 rw [if_neg c2] at H
 have c2b0 := beq_eq_false_iff_ne.mpr c2
 have c2b1 := bne_iff_ne.mpr c2
 by_cases c3 : a0 = 1
 ·rw [if_pos c3] at H
  have c3b0 := beq_iff_eq.mpr c3
  have c3b1 := bne_eq_false_iff_eq.mpr c3
  clear c3
  obtain rfl := Option.some.inj H
  go_enter Tryd.func68, Tryd.ntmps68
  go_wp2
  go_ret
  exact ⟨by first | rfl | (simp; done) | (simp [*]; done), by repeat (first | exact Drawn0.refl _ | apply Drawn0.step)⟩
 rw [if_neg c3] at H
 have c3b0 := beq_eq_false_iff_ne.mpr c3
 have c3b1 := bne_iff_ne.mpr c3
 by_cases c4 : a0 = 2
 ·rw [if_pos c4] at H
  have c4b0 := beq_iff_eq.mpr c4
  have c4b1 := bne_eq_false_iff_eq.mpr c4
  clear c4
  obtain rfl := Option.some.inj H
  go_enter Tryd.func68, Tryd.ntmps68
  go_wp2
  go_ret
  exact ⟨by first | rfl | (simp; done) | (simp [*]; done), by repeat (first | exact Drawn0.refl _ | apply Drawn0.step)⟩
 rw [if_neg c4] at H
 have c4b0 := beq_eq_false_iff_ne.mpr c4
 have c4b1 := bne_iff_ne.mpr c4
 by_cases c5 : a0 = 3
 ·rw [if_pos c5] at H
  have c5b0 := beq_iff_eq.mpr c5
  have c5b1 := bne_eq_false_iff_eq.mpr c5
  clear c5
  obtain rfl := Option.some.inj H
  go_enter Tryd.func68, Tryd.ntmps68
  go_wp2
  go_ret
  exact ⟨by first | rfl | (simp; done) | (simp [*]; done), by repeat (first | exact Drawn0.refl _ | apply Drawn0.step)⟩
 rw [if_neg c5] at H
 have c5b0 := beq_eq_false_iff_ne.mpr c5
 have c5b1 := bne_iff_ne.mpr c5
 obtain rfl := Option.some.inj H
 go_enter Tryd.func68, Tryd.ntmps68
 go_wp2
 go_ret
 exact ⟨by first | rfl | (simp; done) | (simp [*]; done), by repeat (first | exact Drawn0.refl _ | apply Drawn0.step)⟩

def attestorref05_Valid.f (a0_0 : Int) (a0_1 : Int) (a0_2 : Int) : Option (Bool) := (attestorref01_Valid.f a0_0).bind fun t119 => (if t119 = true then (if a0_1 ≥ 0 then ((attestorref04_Greatest.f a0_0).bind fun t120 => (if a0_1 ≤ t120 then (if a0_2 > 0 then ((attestorref01_P.f a0_0).bind fun t121 => (some (decide (a0_2 < t121)))) else (some false)) else (some false))) else (some false)) else (some false))
def attestorref05_Valid.T1 : Bool × List (List Nat × List Nat) := (true, [([], []), ([0], [0]), ([1], [1]), ([2, 2], [2]), ([3], [3]), ([4, 3], [3, 4]), ([5, 3], [3, 5]), ([3, 6], [3, 6]), ([7, 3], [7]), ([8], [8]), ([9, 8], [8, 9]), ([8], [8]), ([11, 8], [8, 11]), ([12, 8, 8], [8, 12]), ([10, 13, 8], [8, 10, 13]), ([8, 14], [8, 14]), ([15, 13], [15]), ([16], [16]), ([17, 16], [16, 17]), ([18, 16], [16, 18]), ([16, 19], [16, 19]), ([20, 16], [20]), ([21], [21]), ([22, 21], [21, 22]), ([21], [21]), ([24, 21], [21, 24]), ([25, 21, 21], [21, 25]), ([23, 26, 21], [21, 23, 26]), ([21, 27], [21, 27]), ([28, 26, 0, 1, 2, 3, 4, 5, 6, 7, 8, 9, 10, 11, 12, 13, 14, 15, 16, 17, 18, 19, 20, 21, 22, 23, 24, 25, 26, 27, 28], [28])])
def attestorref05_Valid.B1 : List Nat := [0, 1, 3, 7, 15, 31, 63, 127, 255, 511, 1023, 511, 2559, 6655, 16383, 32767, 65535, 131071, 262143, 524287, 1048575, 2097151, 4194303, 8388607, 4194303, 20971519, 54525951, 134217727, 268435455, 536870911]
theorem attestorref05_Valid.tab1 : rtab .any (opsOf Tryd.f44 1) = attestorref05_Valid.T1 := by kernel_rfl
theorem attestorref05_Valid.bits1 : waitsOk attestorref05_Valid.T1.2 attestorref05_Valid.B1 = true := by kernel_rfl
set_option maxHeartbeats 8000000 in
set_option maxRecDepth 100000 in
theorem attestorref05_Valid.calls (a0_0 : Int) (a0_1 : Int) (a0_2 : Int) (r : Bool) (w : World) (h : attestorref05_Valid.f a0_0 a0_1 a0_2 = some r) :
  Calls Tryd.prog 44 #[.agg #[.int .i64 a0_0, .int .i64 a0_1, .int .u64 a0_2]] w fun e w' => e = .returned (.bool r) ∧ Below w.heap.size w w' := by
 have hu24 := Tryd.underlying24
 have HB := ak (Below.refl w.heap.size w)
 have H := h
 clear h
 unfold attestorref05_Valid.f at H
 revert H
 refine bd_ fun t119 A2 H => ?_
 by_cases c3 : t119 = true
 ·subst c3
  rw [if_pos rfl] at H
  by_cases c4 : a0_1 ≥ 0
  ·rw [if_pos c4] at H
   have c4b0 : decide (0 ≤ a0_1) = true := decide_eq_true c4
   clear c4
   revert H
   refine bd_ fun t120 A5 H => ?_
   by_cases c6 : a0_1 ≤ t120
   ·rw [if_pos c6] at H
    have c6b0 := decide_eq_true c6
    clear c6
    by_cases c7 : a0_2 > 0
    ·rw [if_pos c7] at H
     have c7b0 : decide (0 < a0_2) = true := decide_eq_true c7
     clear c7
     revert H
     refine bd_ fun t121 A8 H => ?_
     obtain rfl := Option.some.inj H
     go_enter Tryd.func44, Tryd.ntmps44
     try go_wp2_with (first | ((with_reducible refine gate_dst (N := 1) rfl ?_); refine bx_ 1 24 #[.int .i64 a0_0, .int .i64 a0_1, .int .u64 a0_2] ?_; intro gb118 hg w9 hbox hb; refine nx4_ (below_step (bU_ HB.out) hb) (hbox) ((hs_ hg (below_size (bU_ HB.out)))) ((hs_ hg (below_size (bU_ HB.out)))) ?_; clear HB; intro HB BK118 GW118 GE118; clear hb hbox hg))
     refine nx2_ (blk_drew BK118.out) (below_drew1 HB.out) ?_
     clear BK118 HB
     intro BK118 HB
     refine start_ (n := 30) (S := fun w' => w'.cell? ⟨gb118, 0, none⟩ = some (.int .i64 a0_0) ∧ w'.cell? ⟨gb118, 1, none⟩ = some (.int .i64 a0_1) ∧ w'.cell? ⟨gb118, 2, none⟩ = some (.int .u64 a0_2)) (ds := []) (bv 30 0) (by kernel_rfl) rfl rfl ⟨bc0_ BK118.out, bc1_ BK118.out, bc2_ BK118.out⟩ (fun hHeld => ?_); refine with_tabW attestorref05_Valid.tab1 attestorref05_Valid.bits1 (fun HT_ HW_ => ?_)
     generalize w9.drew = w10 at BK118 HB hHeld ⊢
     refine pq_ 0 3 30 1 HT_.out ?_
     refine tq_ 1 4 30 3 HT_.out HW_.out hHeld ?_
     refine oq_ 2 5 30 7 HT_.out fun K hK => ?_
     refine gs_ Tryd.func66 #[.int .i64 a0_0] ?_
     with_reducible refine (attestorref01_Valid.calls a0_0 true _ A2.out).mono ?_
     rintro e w' ⟨rfl, ⟨nd, rfl⟩⟩
     refine ⟨_, rfl, ?_⟩
     refine hK.out _ _ ⟨bc0_ BK118.out, bc1_ BK118.out, bc2_ BK118.out⟩ (fun hHeld => ?_)
     clear hK K
     refine norm_ (a' := ?_) ?_ ?_
     rotate_left
     ·show Act.put _ (some 5) _ = _
      simp only [Act.put, s1_, s2_, s3_, i64_w, i32_w]
      rfl
     refine pq_ 3 6 30 15 HT_.out ?_
     refine pq_ 4 7 30 31 HT_.out ?_
     refine tq_ 5 8 30 63 HT_.out HW_.out hHeld ?_
     refine pq_ 6 9 30 127 HT_.out ?_
     refine pq_ 7 10 30 255 HT_.out ?_
     refine pq_ 8 11 30 511 HT_.out ?_
     refine pq_ 9 12 30 1023 HT_.out ?_
     refine pq_ 11 14 30 3071 HT_.out ?_
     refine tq_ 10 13 30 4095 HT_.out HW_.out hHeld ?_
     refine tq_ 12 15 30 8191 HT_.out HW_.out hHeld ?_
     refine oq_ 13 16 30 16383 HT_.out fun K hK => ?_
     refine gs_ Tryd.func67 #[.int .i64 a0_0] ?_
     with_reducible refine (attestorref04_Greatest.calls a0_0 t120 _ A5.out).mono ?_
     rintro e w11 ⟨rfl, hb⟩
     refine ⟨_, rfl, ?_⟩
     refine nx2_ (blk_below (kU_ BK118.out) hb) (below_step sU_ hb) ?_
     clear BK118 HB
     intro BK118 HB
     (try clear hb)
     (try clear hb2)
     (try clear hk)
     (try clear hi)
     refine hK.out _ _ ⟨bc0_ BK118.out, bc1_ BK118.out, bc2_ BK118.out⟩ (fun hHeld => ?_)
     clear hK K
     refine norm_ (a' := ?_) ?_ ?_
     rotate_left
     ·show Act.put _ (some 16) _ = _
      simp only [Act.put, s1_, s2_, s3_, i64_w, i32_w]
      rfl
     refine pq_ 14 17 30 32767 HT_.out ?_
     refine pq_ 15 18 30 65535 HT_.out ?_
     refine pq_ 16 19 30 131071 HT_.out ?_
     refine pq_ 17 20 30 262143 HT_.out ?_
     refine tq_ 18 21 30 524287 HT_.out HW_.out hHeld ?_
     refine pq_ 19 22 30 1048575 HT_.out ?_
     refine pq_ 20 23 30 2097151 HT_.out ?_
     refine pq_ 21 24 30 4194303 HT_.out ?_
     refine pq_ 22 25 30 8388607 HT_.out ?_
     refine pq_ 24 27 30 25165823 HT_.out ?_
     refine tq_ 23 26 30 33554431 HT_.out HW_.out hHeld ?_
     refine tq_ 25 28 30 67108863 HT_.out HW_.out hHeld ?_
     refine oq_ 26 29 30 134217727 HT_.out fun K hK => ?_
     refine gs_ Tryd.func68 #[.int .i64 a0_0] ?_
     with_reducible refine (attestorref01_P.calls a0_0 t121 _ A8.out).mono ?_
     rintro e w' ⟨rfl, ⟨nd, rfl⟩⟩
     refine ⟨_, rfl, ?_⟩
     refine hK.out _ _ ⟨bc0_ BK118.out, bc1_ BK118.out, bc2_ BK118.out⟩ (fun hHeld => ?_)
     clear hK K
     refine norm_ (a' := ?_) ?_ ?_
     rotate_left
     ·show Act.put _ (some 29) _ = _
      simp only [Act.put, s1_, s2_, s3_, i64_w, i32_w]
      rfl
     refine pq_ 27 30 30 268435455 HT_.out ?_
     refine pq_ 28 31 30 536870911 HT_.out ?_
     refine pq_ 29 2 30 1073741823 HT_.out ?_
     refine done_ (done_of HT_.out (by kernel_rfl)) ?_
     try go_wp2
     go_ret
     exact ⟨eW_, sU_⟩
    rw [if_neg c7] at H
    have c7b0 : decide (0 < a0_2) = false := decide_eq_false c7
    clear c7
    obtain rfl := Option.some.inj H
    go_enter Tryd.func44, Tryd.ntmps44
    try go_wp2_with (first | ((with_reducible refine gate_dst (N := 1) rfl ?_); refine bx_ 1 24 #[.int .i64 a0_0, .int .i64 a0_1, .int .u64 a0_2] ?_; intro gb118 hg w12 hbox hb; refine nx4_ (below_step (bU_ HB.out) hb) (hbox) ((hs_ hg (below_size (bU_ HB.out)))) ((hs_ hg (below_size (bU_ HB.out)))) ?_; clear HB; intro HB BK118 GW118 GE118; clear hb hbox hg))
    refine nx2_ (blk_drew BK118.out) (below_drew1 HB.out) ?_
    clear BK118 HB
    intro BK118 HB
    refine start_ (n := 30) (S := fun w' => w'.cell? ⟨gb118, 0, none⟩ = some (.int .i64 a0_0) ∧ w'.cell? ⟨gb118, 1, none⟩ = some (.int .i64 a0_1) ∧ w'.cell? ⟨gb118, 2, none⟩ = some (.int .u64 a0_2)) (ds := []) (bv 30 0) (by kernel_rfl) rfl rfl ⟨bc0_ BK118.out, bc1_ BK118.out, bc2_ BK118.out⟩ (fun hHeld => ?_); refine with_tabW attestorref05_Valid.tab1 attestorref05_Valid.bits1 (fun HT_ HW_ => ?_)
    generalize w12.drew = w13 at BK118 HB hHeld ⊢
    refine pq_ 0 3 30 1 HT_.out ?_
    refine tq_ 1 4 30 3 HT_.out HW_.out hHeld ?_
    refine oq_ 2 5 30 7 HT_.out fun K hK => ?_
    refine gs_ Tryd.func66 #[.int .i64 a0_0] ?_
    with_reducible refine (attestorref01_Valid.calls a0_0 true _ A2.out).mono ?_
    rintro e w' ⟨rfl, ⟨nd, rfl⟩⟩
    refine ⟨_, rfl, ?_⟩
    refine hK.out _ _ ⟨bc0_ BK118.out, bc1_ BK118.out, bc2_ BK118.out⟩ (fun hHeld => ?_)
    clear hK K
    refine norm_ (a' := ?_) ?_ ?_
    rotate_left
    ·show Act.put _ (some 5) _ = _
     simp only [Act.put, s1_, s2_, s3_, i64_w, i32_w]
     rfl
    refine pq_ 3 6 30 15 HT_.out ?_
    refine pq_ 4 7 30 31 HT_.out ?_
    refine tq_ 5 8 30 63 HT_.out HW_.out hHeld ?_
    refine pq_ 6 9 30 127 HT_.out ?_
    refine pq_ 7 10 30 255 HT_.out ?_
    refine pq_ 8 11 30 511 HT_.out ?_
    refine pq_ 9 12 30 1023 HT_.out ?_
    refine pq_ 11 14 30 3071 HT_.out ?_
    refine tq_ 10 13 30 4095 HT_.out HW_.out hHeld ?_
    refine tq_ 12 15 30 8191 HT_.out HW_.out hHeld ?_
    refine oq_ 13 16 30 16383 HT_.out fun K hK => ?_
    refine gs_ Tryd.func67 #[.int .i64 a0_0] ?_
    with_reducible refine (attestorref04_Greatest.calls a0_0 t120 _ A5.out).mono ?_
    rintro e w14 ⟨rfl, hb⟩
    refine ⟨_, rfl, ?_⟩
    refine nx2_ (blk_below (kU_ BK118.out) hb) (below_step sU_ hb) ?_
    clear BK118 HB
    intro BK118 HB
    (try clear hb)
    (try clear hb2)
    (try clear hk)
    (try clear hi)
    refine hK.out _ _ ⟨bc0_ BK118.out, bc1_ BK118.out, bc2_ BK118.out⟩ (fun hHeld => ?_)
    clear hK K
    refine norm_ (a' := ?_) ?_ ?_
    rotate_left
    ·show Act.put _ (some 16) _ = _
     simp only [Act.put, s1_, s2_, s3_, i64_w, i32_w]
     rfl
    refine pq_ 14 17 30 32767 HT_.out ?_
    refine pq_ 15 18 30 65535 HT_.out ?_
    refine pq_ 16 19 30 131071 HT_.out ?_
    refine pq_ 17 20 30 262143 HT_.out ?_
    refine tq_ 18 21 30 524287 HT_.out HW_.out hHeld ?_
    refine pq_ 19 22 30 1048575 HT_.out ?_
    refine pq_ 20 23 30 2097151 HT_.out ?_
    refine pq_ 21 24 30 4194303 HT_.out ?_
    refine uq_ 22 25 30 8388607 HT_.out ?_
    refine uq_ 23 26 30 16777215 HT_.out ?_
    refine uq_ 24 27 30 33554431 HT_.out ?_
    refine uq_ 25 28 30 67108863 HT_.out ?_
    refine uq_ 26 29 30 134217727 HT_.out ?_
    refine uq_ 27 30 30 268435455 HT_.out ?_
    refine pq_ 28 31 30 536870911 HT_.out ?_
    refine pq_ 29 2 30 1073741823 HT_.out ?_
    refine done_ (done_of HT_.out (by kernel_rfl)) ?_
    try go_wp2
    go_ret
    exact ⟨eW_, sU_⟩
   rw [if_neg c6] at H
   have c6b0 := decide_eq_false c6
   clear c6
   obtain rfl := Option.some.inj H
   go_enter Tryd.func44, Tryd.ntmps44
   try go_wp2_with (first | ((with_reducible refine gate_dst (N := 1) rfl ?_); refine bx_ 1 24 #[.int .i64 a0_0, .int .i64 a0_1, .int .u64 a0_2] ?_; intro gb118 hg w15 hbox hb; refine nx4_ (below_step (bU_ HB.out) hb) (hbox) ((hs_ hg (below_size (bU_ HB.out)))) ((hs_ hg (below_size (bU_ HB.out)))) ?_; clear HB; intro HB BK118 GW118 GE118; clear hb hbox hg))
   refine nx2_ (blk_drew BK118.out) (below_drew1 HB.out) ?_
   clear BK118 HB
   intro BK118 HB
   refine start_ (n := 30) (S := fun w' => w'.cell? ⟨gb118, 0, none⟩ = some (.int .i64 a0_0) ∧ w'.cell? ⟨gb118, 1, none⟩ = some (.int .i64 a0_1) ∧ w'.cell? ⟨gb118, 2, none⟩ = some (.int .u64 a0_2)) (ds := []) (bv 30 0) (by kernel_rfl) rfl rfl ⟨bc0_ BK118.out, bc1_ BK118.out, bc2_ BK118.out⟩ (fun hHeld => ?_); refine with_tabW attestorref05_Valid.tab1 attestorref05_Valid.bits1 (fun HT_ HW_ => ?_)
   generalize w15.drew = w16 at BK118 HB hHeld ⊢
   refine pq_ 0 3 30 1 HT_.out ?_
   refine tq_ 1 4 30 3 HT_.out HW_.out hHeld ?_
   refine oq_ 2 5 30 7 HT_.out fun K hK => ?_
   refine gs_ Tryd.func66 #[.int .i64 a0_0] ?_
   with_reducible refine (attestorref01_Valid.calls a0_0 true _ A2.out).mono ?_
   rintro e w' ⟨rfl, ⟨nd, rfl⟩⟩
   refine ⟨_, rfl, ?_⟩
   refine hK.out _ _ ⟨bc0_ BK118.out, bc1_ BK118.out, bc2_ BK118.out⟩ (fun hHeld => ?_)
   clear hK K
   refine norm_ (a' := ?_) ?_ ?_
   rotate_left
   ·show Act.put _ (some 5) _ = _
    simp only [Act.put, s1_, s2_, s3_, i64_w, i32_w]
    rfl
   refine pq_ 3 6 30 15 HT_.out ?_
   refine pq_ 4 7 30 31 HT_.out ?_
   refine tq_ 5 8 30 63 HT_.out HW_.out hHeld ?_
   refine pq_ 6 9 30 127 HT_.out ?_
   refine pq_ 7 10 30 255 HT_.out ?_
   refine pq_ 8 11 30 511 HT_.out ?_
   refine pq_ 9 12 30 1023 HT_.out ?_
   refine pq_ 11 14 30 3071 HT_.out ?_
   refine tq_ 10 13 30 4095 HT_.out HW_.out hHeld ?_
   refine tq_ 12 15 30 8191 HT_.out HW_.out hHeld ?_
   refine oq_ 13 16 30 16383 HT_.out fun K hK => ?_
   refine gs_ Tryd.func67 #[.int .i64 a0_0] ?_
   with_reducible refine (attestorref04_Greatest.calls a0_0 t120 _ A5.out).mono ?_
   rintro e w17 ⟨rfl, hb⟩
   refine ⟨_, rfl, ?_⟩
   refine nx2_ (blk_below (kU_ BK118.out) hb) (below_step sU_ hb) ?_
   clear BK118 HB
   intro BK118 HB
   (try clear hb)
   (try clear hb2)
   (try clear hk)
   (try clear hi)
   refine hK.out _ _ ⟨bc0_ BK118.out, bc1_ BK118.out, bc2_ BK118.out⟩ (fun hHeld => ?_)
   clear hK K
   refine norm_ (a' := ?_) ?_ ?_
   rotate_left
   ·show Act.put _ (some 16) _ = _
    simp only [Act.put, s1_, s2_, s3_, i64_w, i32_w]
    rfl
   refine pq_ 14 17 30 32767 HT_.out ?_
   refine pq_ 15 18 30 65535 HT_.out ?_
   refine pq_ 16 19 30 131071 HT_.out ?_
   refine uq_ 17 20 30 262143 HT_.out ?_
   refine uq_ 18 21 30 524287 HT_.out ?_
   refine uq_ 19 22 30 1048575 HT_.out ?_
   refine pq_ 20 23 30 2097151 HT_.out ?_
   refine pq_ 21 24 30 4194303 HT_.out ?_
   refine uq_ 22 25 30 8388607 HT_.out ?_
   refine uq_ 23 26 30 16777215 HT_.out ?_
   refine uq_ 24 27 30 33554431 HT_.out ?_
   refine uq_ 25 28 30 67108863 HT_.out ?_
   refine uq_ 26 29 30 134217727 HT_.out ?_
   refine uq_ 27 30 30 268435455 HT_.out ?_
   refine pq_ 28 31 30 536870911 HT_.out ?_
   refine pq_ 29 2 30 1073741823 HT_.out ?_
   refine done_ (done_of HT_.out (by kernel_rfl)) ?_
   try go_wp2
   go_ret
   exact ⟨eW_, sU_⟩
  rw [if_neg c4] at H
  have c4b0 : decide (0 ≤ a0_1) = false := decide_eq_false c4
  clear c4
  obtain rfl := Option.some.inj H
  go_enter Tryd.func44, Tryd.ntmps44
  try go_wp2_with (first | ((with_reducible refine gate_dst (N := 1) rfl ?_); refine bx_ 1 24 #[.int .i64 a0_0, .int .i64 a0_1, .int .u64 a0_2] ?_; intro gb118 hg w18 hbox hb; refine nx4_ (below_step (bU_ HB.out) hb) (hbox) ((hs_ hg (below_size (bU_ HB.out)))) ((hs_ hg (below_size (bU_ HB.out)))) ?_; clear HB; intro HB BK118 GW118 GE118; clear hb hbox hg))
  refine nx2_ (blk_drew BK118.out) (below_drew1 HB.out) ?_
  clear BK118 HB
  intro BK118 HB
  refine start_ (n := 30) (S := fun w' => w'.cell? ⟨gb118, 0, none⟩ = some (.int .i64 a0_0) ∧ w'.cell? ⟨gb118, 1, none⟩ = some (.int .i64 a0_1) ∧ w'.cell? ⟨gb118, 2, none⟩ = some (.int .u64 a0_2)) (ds := []) (bv 30 0) (by kernel_rfl) rfl rfl ⟨bc0_ BK118.out, bc1_ BK118.out, bc2_ BK118.out⟩ (fun hHeld => ?_); refine with_tabW attestorref05_Valid.tab1 attestorref05_Valid.bits1 (fun HT_ HW_ => ?_)
  generalize w18.drew = w19 at BK118 HB hHeld ⊢
  refine pq_ 0 3 30 1 HT_.out ?_
  refine tq_ 1 4 30 3 HT_.out HW_.out hHeld ?_
  refine oq_ 2 5 30 7 HT_.out fun K hK => ?_
  refine gs_ Tryd.func66 #[.int .i64 a0_0] ?_
  with_reducible refine (attestorref01_Valid.calls a0_0 true _ A2.out).mono ?_
  rintro e w' ⟨rfl, ⟨nd, rfl⟩⟩
  refine ⟨_, rfl, ?_⟩
  refine hK.out _ _ ⟨bc0_ BK118.out, bc1_ BK118.out, bc2_ BK118.out⟩ (fun hHeld => ?_)
  clear hK K
  refine norm_ (a' := ?_) ?_ ?_
  rotate_left
  ·show Act.put _ (some 5) _ = _
   simp only [Act.put, s1_, s2_, s3_, i64_w, i32_w]
   rfl
  refine pq_ 3 6 30 15 HT_.out ?_
  refine pq_ 4 7 30 31 HT_.out ?_
  refine tq_ 5 8 30 63 HT_.out HW_.out hHeld ?_
  refine pq_ 6 9 30 127 HT_.out ?_
  refine pq_ 7 10 30 255 HT_.out ?_
  refine pq_ 8 11 30 511 HT_.out ?_
  refine uq_ 9 12 30 1023 HT_.out ?_
  refine uq_ 10 13 30 2047 HT_.out ?_
  refine uq_ 11 14 30 4095 HT_.out ?_
  refine uq_ 12 15 30 8191 HT_.out ?_
  refine uq_ 13 16 30 16383 HT_.out ?_
  refine uq_ 14 17 30 32767 HT_.out ?_
  refine pq_ 15 18 30 65535 HT_.out ?_
  refine pq_ 16 19 30 131071 HT_.out ?_
  refine uq_ 17 20 30 262143 HT_.out ?_
  refine uq_ 18 21 30 524287 HT_.out ?_
  refine uq_ 19 22 30 1048575 HT_.out ?_
  refine pq_ 20 23 30 2097151 HT_.out ?_
  refine pq_ 21 24 30 4194303 HT_.out ?_
  refine uq_ 22 25 30 8388607 HT_.out ?_
  refine uq_ 23 26 30 16777215 HT_.out ?_
  refine uq_ 24 27 30 33554431 HT_.out ?_
  refine uq_ 25 28 30 67108863 HT_.out ?_
  refine uq_ 26 29 30 134217727 HT_.out ?_
  refine uq_ 27 30 30 268435455 HT_.out ?_
  refine pq_ 28 31 30 536870911 HT_.out ?_
  refine pq_ 29 2 30 1073741823 HT_.out ?_
  refine done_ (done_of HT_.out (by kernel_rfl)) ?_
  try go_wp2
  go_ret
  exact ⟨eW_, sU_⟩
 replace c3 := Bool.eq_false_iff.mpr c3
 subst c3
 rw [if_neg (show ¬ (false = true) by decide)] at H
 obtain rfl := Option.some.inj H
 go_enter Tryd.func44, Tryd.ntmps44
 try go_wp2_with (first | ((with_reducible refine gate_dst (N := 1) rfl ?_); refine bx_ 1 24 #[.int .i64 a0_0, .int .i64 a0_1, .int .u64 a0_2] ?_; intro gb118 hg w20 hbox hb; refine nx4_ (below_step (bU_ HB.out) hb) (hbox) ((hs_ hg (below_size (bU_ HB.out)))) ((hs_ hg (below_size (bU_ HB.out)))) ?_; clear HB; intro HB BK118 GW118 GE118; clear hb hbox hg))
 refine nx2_ (blk_drew BK118.out) (below_drew1 HB.out) ?_
 clear BK118 HB
 intro BK118 HB
 refine start_ (n := 30) (S := fun w' => w'.cell? ⟨gb118, 0, none⟩ = some (.int .i64 a0_0) ∧ w'.cell? ⟨gb118, 1, none⟩ = some (.int .i64 a0_1) ∧ w'.cell? ⟨gb118, 2, none⟩ = some (.int .u64 a0_2)) (ds := []) (bv 30 0) (by kernel_rfl) rfl rfl ⟨bc0_ BK118.out, bc1_ BK118.out, bc2_ BK118.out⟩ (fun hHeld => ?_); refine with_tabW attestorref05_Valid.tab1 attestorref05_Valid.bits1 (fun HT_ HW_ => ?_)
 generalize w20.drew = w21 at BK118 HB hHeld ⊢
 refine pq_ 0 3 30 1 HT_.out ?_
 refine tq_ 1 4 30 3 HT_.out HW_.out hHeld ?_
 refine oq_ 2 5 30 7 HT_.out fun K hK => ?_
 refine gs_ Tryd.func66 #[.int .i64 a0_0] ?_
 with_reducible refine (attestorref01_Valid.calls a0_0 false _ A2.out).mono ?_
 rintro e w' ⟨rfl, ⟨nd, rfl⟩⟩
 refine ⟨_, rfl, ?_⟩
 refine hK.out _ _ ⟨bc0_ BK118.out, bc1_ BK118.out, bc2_ BK118.out⟩ (fun hHeld => ?_)
 clear hK K
 refine norm_ (a' := ?_) ?_ ?_
 rotate_left
 ·show Act.put _ (some 5) _ = _
  simp only [Act.put, s1_, s2_, s3_, i64_w, i32_w]
  rfl
 refine pq_ 3 6 30 15 HT_.out ?_
 refine uq_ 4 7 30 31 HT_.out ?_
 refine uq_ 5 8 30 63 HT_.out ?_
 refine uq_ 6 9 30 127 HT_.out ?_
 refine pq_ 7 10 30 255 HT_.out ?_
 refine pq_ 8 11 30 511 HT_.out ?_
 refine uq_ 9 12 30 1023 HT_.out ?_
 refine uq_ 10 13 30 2047 HT_.out ?_
 refine uq_ 11 14 30 4095 HT_.out ?_
 refine uq_ 12 15 30 8191 HT_.out ?_
 refine uq_ 13 16 30 16383 HT_.out ?_
 refine uq_ 14 17 30 32767 HT_.out ?_
 refine pq_ 15 18 30 65535 HT_.out ?_
 refine pq_ 16 19 30 131071 HT_.out ?_
 refine uq_ 17 20 30 262143 HT_.out ?_
 refine uq_ 18 21 30 524287 HT_.out ?_
 refine uq_ 19 22 30 1048575 HT_.out ?_
 refine pq_ 20 23 30 2097151 HT_.out ?_
 refine pq_ 21 24 30 4194303 HT_.out ?_
 refine uq_ 22 25 30 8388607 HT_.out ?_
 refine uq_ 23 26 30 16777215 HT_.out ?_
 refine uq_ 24 27 30 33554431 HT_.out ?_
 refine uq_ 25 28 30 67108863 HT_.out ?_
 refine uq_ 26 29 30 134217727 HT_.out ?_
 refine uq_ 27 30 30 268435455 HT_.out ?_
 refine pq_ 28 31 30 536870911 HT_.out ?_
 refine pq_ 29 2 30 1073741823 HT_.out ?_
 refine done_ (done_of HT_.out (by kernel_rfl)) ?_
 try go_wp2
 go_ret
 exact ⟨eW_, sU_⟩

def attestorref01_Mul.f (a0 : Int) (a1 : Int) (a2 : Int) : Option (Int) := (attestorref01_Valid.f a0).bind fun t122 => (if t122 = true then ((attestorref01_P.f a0).bind fun t123 => (if t123 = 0 then (none) else (some (Int.tmod (IntKind.u64.wrap ((Int.tmod a1 t123) * (Int.tmod a2 t123))) t123)))) else (some 0))
set_option maxHeartbeats 8000000 in
set_option maxRecDepth 100000 in
theorem attestorref01_Mul.calls (a0 : Int) (a1 : Int) (a2 : Int) (r : Int) (w : World) (h : attestorref01_Mul.f a0 a1 a2 = some r) :
  Calls Tryd.prog 49 #[.int .i64 a0, .int .u64 a1, .int .u64 a2] w fun e w' => e = .returned (.int .u64 r) ∧ Drawn0 w w' := by
 have H := h
 clear h
 unfold attestorref01_Mul.f at H
 revert H
 refine bd_ fun t122 A4 H => ?_
 by_cases c5 : t122 = true
 ·subst c5
  rw [if_pos rfl] at H
  revert H
  refine bd_ fun t123 A6 H => ?_
  by_cases c7 : t123 = 0
  ·rw [if_pos c7] at H
   exact absurd H (by simp)
  rw [if_neg c7] at H
  have c7b0 := beq_eq_false_iff_ne.mpr c7
  have c7b1 := bne_iff_ne.mpr c7
  obtain rfl := Option.some.inj H
  go_enter Tryd.func49, Tryd.ntmps49
  go_wp2_with (first | (go_at_call 66; (with_reducible refine (attestorref01_Valid.calls a0 true _ A4.out).mono ?_); rintro e w' ⟨rfl, ⟨nd, rfl⟩⟩; (try first | exact ⟨rfl, _, World.drewN_drewN _ _ _⟩ | exact ⟨rfl, _, dd_⟩)) | (go_at_call 68; (with_reducible refine (attestorref01_P.calls a0 t123 _ A6.out).mono ?_); rintro e w' ⟨rfl, ⟨nd, rfl⟩⟩; (try first | exact ⟨rfl, _, World.drewN_drewN _ _ _⟩ | exact ⟨rfl, _, dd_⟩)))
  repeat (go_quiet (first | (go_at_call 66; (with_reducible refine (attestorref01_Valid.calls a0 true _ A4.out).mono ?_); rintro e w' ⟨rfl, ⟨nd, rfl⟩⟩; (try first | exact ⟨rfl, _, World.drewN_drewN _ _ _⟩ | exact ⟨rfl, _, dd_⟩)) | (go_at_call 68; (with_reducible refine (attestorref01_P.calls a0 t123 _ A6.out).mono ?_); rintro e w' ⟨rfl, ⟨nd, rfl⟩⟩; (try first | exact ⟨rfl, _, World.drewN_drewN _ _ _⟩ | exact ⟨rfl, _, dd_⟩))); try go_wp2_with (first | (go_at_call 66; (with_reducible refine (attestorref01_Valid.calls a0 true _ A4.out).mono ?_); rintro e w' ⟨rfl, ⟨nd, rfl⟩⟩; (try first | exact ⟨rfl, _, World.drewN_drewN _ _ _⟩ | exact ⟨rfl, _, dd_⟩)) | (go_at_call 68; (with_reducible refine (attestorref01_P.calls a0 t123 _ A6.out).mono ?_); rintro e w' ⟨rfl, ⟨nd, rfl⟩⟩; (try first | exact ⟨rfl, _, World.drewN_drewN _ _ _⟩ | exact ⟨rfl, _, dd_⟩))))
  go_ret
  exact ⟨by first | rfl | (simp; done) | (simp [*]; done), by repeat (first | exact Drawn0.refl _ | apply Drawn0.step)⟩
 replace c5 := Bool.eq_false_iff.mpr c5
 subst c5
 rw [if_neg (show ¬ (false = true) by decide)] at H
 obtain rfl := Option.some.inj H
 go_enter Tryd.func49, Tryd.ntmps49
 go_wp2_with (first | (go_at_call 66; (with_reducible refine (attestorref01_Valid.calls a0 false _ A4.out).mono ?_); rintro e w' ⟨rfl, ⟨nd, rfl⟩⟩; (try first | exact ⟨rfl, _, World.drewN_drewN _ _ _⟩ | exact ⟨rfl, _, dd_⟩)))
 repeat (go_quiet (first | (go_at_call 66; (with_reducible refine (attestorref01_Valid.calls a0 false _ A4.out).mono ?_); rintro e w' ⟨rfl, ⟨nd, rfl⟩⟩; (try first | exact ⟨rfl, _, World.drewN_drewN _ _ _⟩ | exact ⟨rfl, _, dd_⟩))); try go_wp2_with (first | (go_at_call 66; (with_reducible refine (attestorref01_Valid.calls a0 false _ A4.out).mono ?_); rintro e w' ⟨rfl, ⟨nd, rfl⟩⟩; (try first | exact ⟨rfl, _, World.drewN_drewN _ _ _⟩ | exact ⟨rfl, _, dd_⟩))))
 go_ret
 exact ⟨by first | rfl | (simp; done) | (simp [*]; done), by repeat (first | exact Drawn0.refl _ | apply Drawn0.step)⟩

def attestorref01_Pow.f : Nat → Int → Int → Int → Option (Int)
 | 0, _, _, _ => none
 | k + 1, a0, a1, a2 => (attestorref01_Valid.f a0).bind fun t124 => (if t124 = true then (if a2 = 0 then (some 1) else ((attestorref01_Pow.f k a0 a1 (IntKind.u64.wrap (Int.tdiv a2 2))).bind fun t125 => ((attestorref01_Mul.f a0 t125 t125).bind fun t126 => (if (Int.tmod a2 2) = 1 then ((attestorref01_Mul.f a0 t126 a1).bind fun t127 => (some t127)) else (some t126))))) else (some 0))
set_option maxHeartbeats 8000000 in
set_option maxRecDepth 100000 in
theorem attestorref01_Pow.calls (k : Nat) : ∀ (a0 : Int) (a1 : Int) (a2 : Int) (r : Int) (w : World) (h : attestorref01_Pow.f k a0 a1 a2 = some r),
  Calls Tryd.prog 45 #[.int .i64 a0, .int .u64 a1, .int .u64 a2] w fun e w' => e = .returned (.int .u64 r) ∧ Drawn0 w w' := by
 induction k using Nat.strongRecOn with
 | _ k ih =>
 intro a0 a1 a2 r w h
 cases k with
 | zero => exact absurd h (by simp [attestorref01_Pow.f])
 | succ k =>
 simp only [attestorref01_Pow.f] at h
 have H : ((attestorref01_Valid.f a0).bind fun t124 => (if t124 = true then (if a2 = 0 then (some 1) else ((attestorref01_Pow.f k a0 a1 (IntKind.u64.wrap (Int.tdiv a2 2))).bind fun t125 => ((attestorref01_Mul.f a0 t125 t125).bind fun t126 => (if (Int.tmod a2 2) = 1 then ((attestorref01_Mul.f a0 t126 a1).bind fun t127 => (some t127)) else (some t126))))) else (some 0))) = some r := h
 clear h
 revert H
 refine bd_ fun t124 A4 H => ?_
 by_cases c5 : t124 = true
 ·subst c5
  rw [if_pos rfl] at H
  by_cases c6 : a2 = 0
  ·rw [if_pos c6] at H
   have c6b0 := beq_iff_eq.mpr c6
   have c6b1 := bne_eq_false_iff_eq.mpr c6
   clear c6
   obtain rfl := Option.some.inj H
   go_enter Tryd.func45, Tryd.ntmps45
   go_wp2_with (first | ((with_reducible refine gate_callee (f := 66) rfl ?_); refine gl_ (some 9) Tryd.func66 #[.int .i64 a0] ?_; (with_reducible refine (attestorref01_Valid.calls a0 true _ A4.out).mono ?_); rintro e w' ⟨rfl, ⟨nd, rfl⟩⟩; refine ⟨_, rfl, ?_⟩))
   go_ret
   exact ⟨by first | rfl | (simp; done) | (simp [*]; done), by repeat (first | exact Drawn0.refl _ | apply Drawn0.step)⟩
  rw [if_neg c6] at H
  have c6b0 := beq_eq_false_iff_ne.mpr c6
  have c6b1 := bne_iff_ne.mpr c6
  revert H
  refine bd_ fun t125 A7 H => ?_
  revert H
  refine bd_ fun t126 A8 H => ?_
  by_cases c9 : (Int.tmod a2 2) = 1
  ·rw [if_pos c9] at H
   have c9b0 := beq_iff_eq.mpr c9
   have c9b1 := bne_eq_false_iff_eq.mpr c9
   clear c9
   revert H
   refine bd_ fun t127 A10 H => ?_
   obtain rfl := Option.some.inj H
   go_enter Tryd.func45, Tryd.ntmps45
   go_wp2_with (first | ((with_reducible refine gate_callee (f := 66) rfl ?_); refine gl_ (some 9) Tryd.func66 #[.int .i64 a0] ?_; (with_reducible refine (attestorref01_Valid.calls a0 true _ A4.out).mono ?_); rintro e w' ⟨rfl, ⟨nd, rfl⟩⟩; refine ⟨_, rfl, ?_⟩) | ((with_reducible refine gate_callee (f := 45) rfl ?_); refine gl_ (some 17) Tryd.func45 #[.int .i64 a0, .int .u64 a1, .int .u64 (IntKind.u64.wrap (Int.tdiv a2 2))] ?_; (with_reducible refine (ih k (by omega) a0 a1 (IntKind.u64.wrap (Int.tdiv a2 2)) t125 _ A7.out).mono ?_); rintro e w' ⟨rfl, ⟨nd, rfl⟩⟩; refine ⟨_, rfl, ?_⟩) | ((with_reducible refine gate_callee (f := 49) rfl ?_); refine gl_ (some 21) Tryd.func49 #[.int .i64 a0, .int .u64 t125, .int .u64 t125] ?_; (with_reducible refine (attestorref01_Mul.calls a0 t125 t125 t126 _ A8.out).mono ?_); rintro e w' ⟨rfl, ⟨nd, rfl⟩⟩; refine ⟨_, rfl, ?_⟩) | ((with_reducible refine gate_callee (f := 49) rfl ?_); refine gl_ (some 28) Tryd.func49 #[.int .i64 a0, .int .u64 t126, .int .u64 a1] ?_; (with_reducible refine (attestorref01_Mul.calls a0 t126 a1 t127 _ A10.out).mono ?_); rintro e w' ⟨rfl, ⟨nd, rfl⟩⟩; refine ⟨_, rfl, ?_⟩))
   go_ret
   exact ⟨by first | rfl | (simp; done) | (simp [*]; done), by repeat (first | exact Drawn0.refl _ | apply Drawn0.step)⟩
  rw [if_neg c9] at H
  have c9b0 := beq_eq_false_iff_ne.mpr c9
  have c9b1 := bne_iff_ne.mpr c9
  obtain rfl := Option.some.inj H
  go_enter Tryd.func45, Tryd.ntmps45
  go_wp2_with (first | ((with_reducible refine gate_callee (f := 66) rfl ?_); refine gl_ (some 9) Tryd.func66 #[.int .i64 a0] ?_; (with_reducible refine (attestorref01_Valid.calls a0 true _ A4.out).mono ?_); rintro e w' ⟨rfl, ⟨nd, rfl⟩⟩; refine ⟨_, rfl, ?_⟩) | ((with_reducible refine gate_callee (f := 45) rfl ?_); refine gl_ (some 17) Tryd.func45 #[.int .i64 a0, .int .u64 a1, .int .u64 (IntKind.u64.wrap (Int.tdiv a2 2))] ?_; (with_reducible refine (ih k (by omega) a0 a1 (IntKind.u64.wrap (Int.tdiv a2 2)) t125 _ A7.out).mono ?_); rintro e w' ⟨rfl, ⟨nd, rfl⟩⟩; refine ⟨_, rfl, ?_⟩) | ((with_reducible refine gate_callee (f := 49) rfl ?_); refine gl_ (some 21) Tryd.func49 #[.int .i64 a0, .int .u64 t125, .int .u64 t125] ?_; (with_reducible refine (attestorref01_Mul.calls a0 t125 t125 t126 _ A8.out).mono ?_); rintro e w' ⟨rfl, ⟨nd, rfl⟩⟩; refine ⟨_, rfl, ?_⟩))
  go_ret
  exact ⟨by first | rfl | (simp; done) | (simp [*]; done), by repeat (first | exact Drawn0.refl _ | apply Drawn0.step)⟩
 replace c5 := Bool.eq_false_iff.mpr c5
 subst c5
 rw [if_neg (show ¬ (false = true) by decide)] at H
 obtain rfl := Option.some.inj H
 go_enter Tryd.func45, Tryd.ntmps45
 go_wp2_with (first | ((with_reducible refine gate_callee (f := 66) rfl ?_); refine gl_ (some 9) Tryd.func66 #[.int .i64 a0] ?_; (with_reducible refine (attestorref01_Valid.calls a0 false _ A4.out).mono ?_); rintro e w' ⟨rfl, ⟨nd, rfl⟩⟩; refine ⟨_, rfl, ?_⟩))
 go_ret
 exact ⟨by first | rfl | (simp; done) | (simp [*]; done), by repeat (first | exact Drawn0.refl _ | apply Drawn0.step)⟩

def attestorref09_Next.f (k : Nat) (a0_0 : Int) (a0_1 : Int) (a0_2 : Int) : Option (Int × Int × Int × Int) := (attestorref05_Valid.f a0_0 a0_1 a0_2).bind fun t130 => (if t130 = true then (if a0_1 < 3 then (some (0, 0, 0, 2)) else ((attestorref01_Pow.f k a0_0 a0_2 8).bind fun t131 => (some (a0_0, wrap64 (a0_1 - 3), t131, 0)))) else (some (0, 0, 0, 1)))
def attestorref09_Next.T5 : Bool × List (List Nat × List Nat) := (true, [([], []), ([0], [0]), ([], []), ([2], [2]), ([3], [3]), ([], []), ([5], [5]), ([], []), ([7], [7]), ([6, 8], [6, 8]), ([1, 4, 9], [1, 4, 9]), ([10, 9, 0, 1, 2, 3, 4, 5, 6, 7, 8, 9, 10], [10]), ([11, 0, 1, 2, 3, 4, 5, 6, 7, 8, 9, 10, 11], [])])
def attestorref09_Next.B5 : List Nat := [0, 1, 0, 4, 12, 0, 32, 0, 128, 480, 1023, 2047, 4095]
theorem attestorref09_Next.tab5 : rtab .any (opsOf Tryd.f11 5) = attestorref09_Next.T5 := by kernel_rfl
theorem attestorref09_Next.bits5 : waitsOk attestorref09_Next.T5.2 attestorref09_Next.B5 = true := by kernel_rfl
set_option maxHeartbeats 8000000 in
set_option maxRecDepth 100000 in
theorem attestorref09_Next.calls (k : Nat) (a0_0 : Int) (a0_1 : Int) (a0_2 : Int) (r1 : Int) (r2 : Int) (r3 : Int) (r4 : Int) (w : World) (h : attestorref09_Next.f k a0_0 a0_1 a0_2 = some (r1, r2, r3, r4)) :
  Calls Tryd.prog 11 #[.agg #[.int .i64 a0_0, .int .i64 a0_1, .int .u64 a0_2]] w fun e w' => e = .returned (.tuple #[.agg #[.int .i64 r1, .int .i64 r2, .int .u64 r3], .int .i64 r4]) ∧ Below w.heap.size w w' := by
 have hu24 := Tryd.underlying24
 have HB := ak (Below.refl w.heap.size w)
 have H := h
 clear h
 unfold attestorref09_Next.f at H
 revert H
 refine bd_ fun t130 A2 H => ?_
 by_cases c3 : t130 = true
 ·subst c3
  rw [if_pos rfl] at H
  by_cases c4 : a0_1 < 3
  ·rw [if_pos c4] at H
   have c4b0 := decide_eq_true c4
   clear c4
   simp only [Option.some.injEq, Prod.mk.injEq] at H
   obtain ⟨rfl, rfl, rfl, rfl⟩ := H
   go_enter Tryd.func11, Tryd.ntmps11
   go_wp2_with (first | ((with_reducible refine gate_dst (N := 1) rfl ?_); refine bx_ 1 24 #[.int .i64 a0_0, .int .i64 a0_1, .int .u64 a0_2] ?_; intro gb128 hg w5 hbox hb; refine nx4_ (below_step (bU_ HB.out) hb) (hbox) ((hs_ hg (below_size (bU_ HB.out)))) ((hs_ hg (below_size (bU_ HB.out)))) ?_; clear HB; intro HB BK128 GW128 GE128; clear hb hbox hg) | ((with_reducible refine gate_dst (N := 2) rfl ?_); refine bx_ 2 24 #[.int .i64 0, .int .i64 0, .int .u64 0] ?_; intro gb129 hg w6 hbox hb; refine nx7_ (blk_below (kU_ BK128.out) hb) (below_step sU_ hb) (hbox) ((hs_ hg (below_size sU_) : w.heap.size ≤ gb129)) ((hs_ hg (below_size sU_) : w.heap.size ≤ gb129)) ((hl_ hg (kU_ BK128.out))) ((hm_ hg (kU_ BK128.out))) ?_; clear BK128 HB; intro BK128 HB BK129 GW129 GE129 NB128_129 NB129_128; clear hb hbox hg; have hnb7 := NB128_129.out; have hnc7 := NB129_128.out; have hcz8_0 := bc0_ BK128.out; have hcz8_1 := bc1_ BK128.out; have hcz8_2 := bc2_ BK128.out; have hfz8_0 := blk_frozen BK128.out 0; have hfz8_1 := blk_frozen BK128.out 1; have hfz8_2 := blk_frozen BK128.out 2) | ((with_reducible refine gate_callee (f := 44) rfl ?_); refine gl_ (some 5) Tryd.func44 #[.agg #[.int .i64 a0_0, .int .i64 a0_1, .int .u64 a0_2]] ?_; (with_reducible refine (attestorref05_Valid.calls a0_0 a0_1 a0_2 true _ A2.out).mono ?_); rintro e w9 ⟨rfl, hb⟩; refine ⟨_, rfl, ?_⟩; refine nx3_ (blk_below (kU_ BK128.out) hb) (blk_below (kU_ BK129.out) hb) (below_step sU_ hb) ?_; clear BK128 BK129 HB; intro BK128 BK129 HB; clear hb; have hcz10_0 := bc0_ BK128.out; have hcz10_1 := bc1_ BK128.out; have hcz10_2 := bc2_ BK128.out; have hfz10_0 := blk_frozen BK128.out 0; have hfz10_1 := blk_frozen BK128.out 1; have hfz10_2 := blk_frozen BK128.out 2; have hcz11_0 := bc0_ BK129.out; have hcz11_1 := bc1_ BK129.out; have hcz11_2 := bc2_ BK129.out; have hfz11_0 := blk_frozen BK129.out 0; have hfz11_1 := blk_frozen BK129.out 1; have hfz11_2 := blk_frozen BK129.out 2))
   refine bodyPost_ret (results_ct rfl _ _ gb129 24 #[.int .i64 0, .int .i64 0, .int .u64 0] (0, 0) _ rfl kp_ Tryd.underlying24 rfl (by kernel_rfl)) rfl ?_
   exact ⟨eW_, sU_⟩
  rw [if_neg c4] at H
  have c4b0 := decide_eq_false c4
  clear c4
  revert H
  refine bd_ fun t131 A12 H => ?_
  simp only [Option.some.injEq, Prod.mk.injEq] at H
  obtain ⟨rfl, rfl, rfl, rfl⟩ := H
  go_enter Tryd.func11, Tryd.ntmps11
  try go_wp2_with (first | ((with_reducible refine gate_dst (N := 1) rfl ?_); refine bx_ 1 24 #[.int .i64 a0_0, .int .i64 a0_1, .int .u64 a0_2] ?_; intro gb128 hg w13 hbox hb; refine nx4_ (below_step (bU_ HB.out) hb) (hbox) ((hs_ hg (below_size (bU_ HB.out)))) ((hs_ hg (below_size (bU_ HB.out)))) ?_; clear HB; intro HB BK128 GW128 GE128; clear hb hbox hg) | ((with_reducible refine gate_dst (N := 2) rfl ?_); refine bx_ 2 24 #[.int .i64 0, .int .i64 0, .int .u64 0] ?_; intro gb129 hg w14 hbox hb; refine nx7_ (blk_below (kU_ BK128.out) hb) (below_step sU_ hb) (hbox) ((hs_ hg (below_size sU_) : w.heap.size ≤ gb129)) ((hs_ hg (below_size sU_) : w.heap.size ≤ gb129)) ((hl_ hg (kU_ BK128.out))) ((hm_ hg (kU_ BK128.out))) ?_; clear BK128 HB; intro BK128 HB BK129 GW129 GE129 NB128_129 NB129_128; clear hb hbox hg; have hnb15 := NB128_129.out; have hnc15 := NB129_128.out; have hcz16_0 := bc0_ BK128.out; have hcz16_1 := bc1_ BK128.out; have hcz16_2 := bc2_ BK128.out; have hfz16_0 := blk_frozen BK128.out 0; have hfz16_1 := blk_frozen BK128.out 1; have hfz16_2 := blk_frozen BK128.out 2) | ((with_reducible refine gate_callee (f := 44) rfl ?_); refine gl_ (some 5) Tryd.func44 #[.agg #[.int .i64 a0_0, .int .i64 a0_1, .int .u64 a0_2]] ?_; (with_reducible refine (attestorref05_Valid.calls a0_0 a0_1 a0_2 true _ A2.out).mono ?_); rintro e w17 ⟨rfl, hb⟩; refine ⟨_, rfl, ?_⟩; refine nx3_ (blk_below (kU_ BK128.out) hb) (blk_below (kU_ BK129.out) hb) (below_step sU_ hb) ?_; clear BK128 BK129 HB; intro BK128 BK129 HB; clear hb; have hcz18_0 := bc0_ BK128.out; have hcz18_1 := bc1_ BK128.out; have hcz18_2 := bc2_ BK128.out; have hfz18_0 := blk_frozen BK128.out 0; have hfz18_1 := blk_frozen BK128.out 1; have hfz18_2 := blk_frozen BK128.out 2))
  refine nx3_ (blk_drew BK128.out) (blk_drew BK129.out) (below_drew1 HB.out) ?_
  clear BK128 BK129 HB
  intro BK128 BK129 HB
  refine start_ (n := 13) (S := fun w' => w'.cell? ⟨gb128, 0, none⟩ = some (.int .i64 a0_0) ∧ w'.cell? ⟨gb128, 1, none⟩ = some (.int .i64 a0_1) ∧ w'.cell? ⟨gb128, 2, none⟩ = some (.int .u64 a0_2)) (ds := []) (bv 13 0) (by kernel_rfl) rfl rfl ⟨bc0_ BK128.out, bc1_ BK128.out, bc2_ BK128.out⟩ (fun hHeld => ?_); refine with_tabW attestorref09_Next.tab5 attestorref09_Next.bits5 (fun HT_ HW_ => ?_)
  generalize w17.drew = w19 at BK128 BK129 HB hHeld ⊢
  refine pq_ 0 12 13 1 HT_.out ?_
  refine pq_ 2 14 13 5 HT_.out ?_
  refine pq_ 5 17 13 37 HT_.out ?_
  refine pq_ 7 19 13 165 HT_.out ?_
  refine tq_ 1 13 13 167 HT_.out HW_.out hHeld ?_
  refine tq_ 3 15 13 175 HT_.out HW_.out hHeld ?_
  refine pq_ 4 16 13 191 HT_.out ?_
  refine tq_ 6 18 13 255 HT_.out HW_.out hHeld ?_
  refine tq_ 8 20 13 511 HT_.out HW_.out hHeld ?_
  refine oq_ 9 21 13 1023 HT_.out fun K hK => ?_
  refine gs_ Tryd.func45 #[.int .i64 a0_0, .int .u64 a0_2, .int .u64 8] ?_
  with_reducible refine (attestorref01_Pow.calls k a0_0 a0_2 8 t131 _ A12.out).mono ?_
  rintro e w' ⟨rfl, ⟨nd, rfl⟩⟩
  refine ⟨_, rfl, ?_⟩
  refine hK.out _ _ ⟨bc0_ BK128.out, bc1_ BK128.out, bc2_ BK128.out⟩ (fun hHeld => ?_)
  clear hK K
  refine norm_ (a' := ?_) ?_ ?_
  rotate_left
  ·show Act.put _ (some 21) _ = _
   simp only [Act.put, s1_, s2_, s3_, i64_w, i32_w]
   rfl
  refine pq_ 10 22 13 2047 HT_.out ?_
  refine one_ (i := 11) (N := none) (bv 13 4095) rfl rfl (one_of HT_.out (by kernel_rfl)) (by decide) (fun K hK => ?_)
  have hs20 : w19.cell? ⟨gb129, 0, none⟩ = some (.int .i64 0) := bc0_ BK129.out
  have hfs20 := blk_frozen BK129.out 0
  have hns20_0 := NB128_129.out
  have hms20_0 := NB129_128.out
  have hs21 : w19.cell? ⟨gb129, 1, none⟩ = some (.int .i64 0) := bc1_ BK129.out
  have hfs21 := blk_frozen BK129.out 1
  have hns21_0 := NB128_129.out
  have hms21_0 := NB129_128.out
  have hs22 : w19.cell? ⟨gb129, 2, none⟩ = some (.int .u64 0) := bc2_ BK129.out
  have hfs22 := blk_frozen BK129.out 2
  have hns22_0 := NB128_129.out
  have hms22_0 := NB129_128.out
  refine skip_ (w1 := ?_) (by rfl) rfl ?_ ?_
  rotate_left
  ·go_simp
   rfl
  refine hK.out _ _ ⟨((cell_far (p := ⟨gb129, _, none⟩) NB128_129.out _).trans (((cell_far (p := ⟨gb129, _, none⟩) NB128_129.out _).trans (((cell_far (p := ⟨gb129, _, none⟩) NB128_129.out _).trans (hHeld.1)))))), ((cell_far (p := ⟨gb129, _, none⟩) NB128_129.out _).trans (((cell_far (p := ⟨gb129, _, none⟩) NB128_129.out _).trans (((cell_far (p := ⟨gb129, _, none⟩) NB128_129.out _).trans (hHeld.2.1)))))), ((cell_far (p := ⟨gb129, _, none⟩) NB128_129.out _).trans (((cell_far (p := ⟨gb129, _, none⟩) NB128_129.out _).trans (((cell_far (p := ⟨gb129, _, none⟩) NB128_129.out _).trans (hHeld.2.2))))))⟩ (fun hHeld => ?_)
  clear hK K
  refine pq_ 12 3 13 8191 HT_.out ?_
  refine done_ (done_of HT_.out (by kernel_rfl)) ?_
  try go_wp2
  refine bodyPost_ret (results_ct rfl _ _ gb129 24 #[.int .i64 a0_0, .int .i64 (wrap64 (a0_1 - 3)), .int .u64 t131] (0, 0) _ rfl (by (with_reducible repeat (first | refine blk_drewN ?_ _ | refine blk_drew ?_ | refine blk_alloc ?_ _)); refine blk_put (cs := #[.int .i64 a0_0, .int .i64 (wrap64 (a0_1 - 3)), .int .u64 0]) ?_ 2 _ rfl; (with_reducible repeat (first | refine blk_drewN ?_ _ | refine blk_drew ?_ | refine blk_alloc ?_ _)); refine blk_put (cs := #[.int .i64 a0_0, .int .i64 0, .int .u64 0]) ?_ 1 _ rfl; (with_reducible repeat (first | refine blk_drewN ?_ _ | refine blk_drew ?_ | refine blk_alloc ?_ _)); refine blk_put (cs := #[.int .i64 0, .int .i64 0, .int .u64 0]) ?_ 0 _ rfl; (with_reducible repeat (first | refine blk_drewN ?_ _ | refine blk_drew ?_ | refine blk_alloc ?_ _)); exact BK129.out) Tryd.underlying24 rfl (by kernel_rfl)) rfl ?_
  exact ⟨eW_, sU_⟩
 replace c3 := Bool.eq_false_iff.mpr c3
 subst c3
 rw [if_neg (show ¬ (false = true) by decide)] at H
 simp only [Option.some.injEq, Prod.mk.injEq] at H
 obtain ⟨rfl, rfl, rfl, rfl⟩ := H
 go_enter Tryd.func11, Tryd.ntmps11
 go_wp2_with (first | ((with_reducible refine gate_dst (N := 1) rfl ?_); refine bx_ 1 24 #[.int .i64 a0_0, .int .i64 a0_1, .int .u64 a0_2] ?_; intro gb128 hg w23 hbox hb; refine nx4_ (below_step (bU_ HB.out) hb) (hbox) ((hs_ hg (below_size (bU_ HB.out)))) ((hs_ hg (below_size (bU_ HB.out)))) ?_; clear HB; intro HB BK128 GW128 GE128; clear hb hbox hg) | ((with_reducible refine gate_dst (N := 2) rfl ?_); refine bx_ 2 24 #[.int .i64 0, .int .i64 0, .int .u64 0] ?_; intro gb129 hg w24 hbox hb; refine nx7_ (blk_below (kU_ BK128.out) hb) (below_step sU_ hb) (hbox) ((hs_ hg (below_size sU_) : w.heap.size ≤ gb129)) ((hs_ hg (below_size sU_) : w.heap.size ≤ gb129)) ((hl_ hg (kU_ BK128.out))) ((hm_ hg (kU_ BK128.out))) ?_; clear BK128 HB; intro BK128 HB BK129 GW129 GE129 NB128_129 NB129_128; clear hb hbox hg; have hnb25 := NB128_129.out; have hnc25 := NB129_128.out; have hcz26_0 := bc0_ BK128.out; have hcz26_1 := bc1_ BK128.out; have hcz26_2 := bc2_ BK128.out; have hfz26_0 := blk_frozen BK128.out 0; have hfz26_1 := blk_frozen BK128.out 1; have hfz26_2 := blk_frozen BK128.out 2) | ((with_reducible refine gate_callee (f := 44) rfl ?_); refine gl_ (some 5) Tryd.func44 #[.agg #[.int .i64 a0_0, .int .i64 a0_1, .int .u64 a0_2]] ?_; (with_reducible refine (attestorref05_Valid.calls a0_0 a0_1 a0_2 false _ A2.out).mono ?_); rintro e w27 ⟨rfl, hb⟩; refine ⟨_, rfl, ?_⟩; refine nx3_ (blk_below (kU_ BK128.out) hb) (blk_below (kU_ BK129.out) hb) (below_step sU_ hb) ?_; clear BK128 BK129 HB; intro BK128 BK129 HB; clear hb; have hcz28_0 := bc0_ BK129.out; have hcz28_1 := bc1_ BK129.out; have hcz28_2 := bc2_ BK129.out; have hfz28_0 := blk_frozen BK129.out 0; have hfz28_1 := blk_frozen BK129.out 1; have hfz28_2 := blk_frozen BK129.out 2))
 refine bodyPost_ret (results_ct rfl _ _ gb129 24 #[.int .i64 0, .int .i64 0, .int .u64 0] (0, 0) _ rfl kp_ Tryd.underlying24 rfl (by kernel_rfl)) rfl ?_
 exact ⟨eW_, sU_⟩

def attestorref01_Reduce.f (a0 : Int) (a1 : Int) : Option (Int) := (attestorref01_Valid.f a0).bind fun t171 => (if t171 = true then ((attestorref01_P.f a0).bind fun t172 => (if t172 = 0 then (none) else (some (Int.tmod a1 t172)))) else (some 0))
set_option maxHeartbeats 8000000 in
set_option maxRecDepth 100000 in
theorem attestorref01_Reduce.calls (a0 : Int) (a1 : Int) (r : Int) (w : World) (h : attestorref01_Reduce.f a0 a1 = some r) :
  Calls Tryd.prog 47 #[.int .i64 a0, .int .u64 a1] w fun e w' => e = .returned (.int .u64 r) ∧ Drawn0 w w' := by
 have H := h
 clear h
 unfold attestorref01_Reduce.f at H
 revert H
 refine bd_ fun t171 A3 H => ?_
 by_cases c4 : t171 = true
 ·subst c4
  rw [if_pos rfl] at H
  revert H
  refine bd_ fun t172 A5 H => ?_
  by_cases c6 : t172 = 0
  ·rw [if_pos c6] at H
   exact absurd H (by simp)
  rw [if_neg c6] at H
  have c6b0 := beq_eq_false_iff_ne.mpr c6
  have c6b1 := bne_iff_ne.mpr c6
  obtain rfl := Option.some.inj H
  go_enter Tryd.func47, Tryd.ntmps47
  go_wp2_with (first | ((with_reducible refine gate_callee (f := 66) rfl ?_); refine gl_ (some 6) Tryd.func66 #[.int .i64 a0] ?_; (with_reducible refine (attestorref01_Valid.calls a0 true _ A3.out).mono ?_); rintro e w' ⟨rfl, ⟨nd, rfl⟩⟩; refine ⟨_, rfl, ?_⟩) | ((with_reducible refine gate_callee (f := 68) rfl ?_); refine gl_ (some 10) Tryd.func68 #[.int .i64 a0] ?_; (with_reducible refine (attestorref01_P.calls a0 t172 _ A5.out).mono ?_); rintro e w' ⟨rfl, ⟨nd, rfl⟩⟩; refine ⟨_, rfl, ?_⟩))
  go_ret
  exact ⟨by first | rfl | (simp; done) | (simp [*]; done), by repeat (first | exact Drawn0.refl _ | apply Drawn0.step)⟩
 replace c4 := Bool.eq_false_iff.mpr c4
 subst c4
 rw [if_neg (show ¬ (false = true) by decide)] at H
 obtain rfl := Option.some.inj H
 go_enter Tryd.func47, Tryd.ntmps47
 go_wp2_with (first | ((with_reducible refine gate_callee (f := 66) rfl ?_); refine gl_ (some 6) Tryd.func66 #[.int .i64 a0] ?_; (with_reducible refine (attestorref01_Valid.calls a0 false _ A3.out).mono ?_); rintro e w' ⟨rfl, ⟨nd, rfl⟩⟩; refine ⟨_, rfl, ?_⟩))
 go_ret
 exact ⟨by first | rfl | (simp; done) | (simp [*]; done), by repeat (first | exact Drawn0.refl _ | apply Drawn0.step)⟩

def attestorref01_Generator.j0 : Nat → Int → Bool → Option (Int)
 | 0, _, _ => none
 | k + 1, x3, x6 => if x6 = true then (some 3) else (if x3 = 2 then (some 11) else (some 0))
def attestorref01_Generator.f (k : Nat) (a0 : Int) : Option (Int) := if a0 = 0 then (some 5) else (if a0 = 1 then (attestorref01_Generator.j0 k a0 (a0 == 1)) else (attestorref01_Generator.j0 k a0 (a0 == 3)))
set_option maxHeartbeats 8000000 in
set_option maxRecDepth 100000 in
theorem attestorref01_Generator.calls (k : Nat) (a0 : Int) (r : Int) (w : World) (h : attestorref01_Generator.f k a0 = some r) :
  Calls Tryd.prog 70 #[.int .i64 a0] w fun e w' => e = .returned (.int .u64 r) ∧ Drawn0 w w' := by
 have H := h
 clear h
 unfold attestorref01_Generator.f at H
 by_cases c2 : a0 = 0
 ·rw [if_pos c2] at H
  have c2b0 := beq_iff_eq.mpr c2
  have c2b1 := bne_eq_false_iff_eq.mpr c2
  clear c2
  obtain rfl := Option.some.inj H
  go_enter Tryd.func70, Tryd.ntmps70
  go_wp2
  go_ret
  exact ⟨by first | rfl | (simp; done) | (simp [*]; done), by repeat (first | exact Drawn0.refl _ | apply Drawn0.step)⟩
 rw [if_neg c2] at H
 have c2b0 := beq_eq_false_iff_ne.mpr c2
 have c2b1 := bne_iff_ne.mpr c2
 have HC3 := ak H
 clear H
 go_enter Tryd.func70, Tryd.ntmps70
 go_upto_if 6 with (fail)
 go_cut [6] (fun v6 wc => ∃ (kq : Nat) (x6_2 : Bool), v6 = .bool x6_2 ∧ Aside0 (attestorref01_Generator.j0 kq a0 x6_2 = some r) ∧ Aside0 (kq ≤ k) ∧ Drawn0 w wc)
 case first =>
  have H := HC3.out
  clear HC3
  by_cases c4 : a0 = 1
  ·rw [if_pos c4] at H
   have c4b0 := beq_iff_eq.mpr c4
   have c4b1 := bne_eq_false_iff_eq.mpr c4
   clear c4
   (first | rw [c4b0] | (simp only [i64_w, i32_w]; rw [c4b0]) | rw [c4b1] | skip)
   have H' := ak H
   clear H
   go_wp2
   go_meet
   case rel => exact ⟨_, ((a0 == 1)), gb_, H', ⟨by first | omega | exact Nat.le_refl _⟩, by repeat (first | exact Drawn0.refl _ | apply Drawn0.step)⟩
  rw [if_neg c4] at H
  have c4b0 := beq_eq_false_iff_ne.mpr c4
  have c4b1 := bne_iff_ne.mpr c4
  (first | rw [c4b0] | (simp only [i64_w, i32_w]; rw [c4b0]) | rw [c4b1] | skip)
  have H' := ak H
  clear H
  go_wp2
  go_meet
  case rel => exact ⟨_, ((a0 == 3)), gb_, H', ⟨by first | omega | exact Nat.le_refl _⟩, by repeat (first | exact Drawn0.refl _ | apply Drawn0.step)⟩
 case rest =>
  clear HC3
  (try clear c2); (try clear c2b0); (try clear c2b1); (try clear p2); (try clear c4); (try clear c4b0); (try clear c4b1)
  obtain ⟨kq, x6_2, rfl, HA, HJ2, ⟨mc2, rfl⟩⟩ := hcut
  cases kq with
  | zero => exact absurd HA.out (by simp [attestorref01_Generator.j0])
  | succ kj2 =>
   have H := HA.out
   clear HA
   simp only [attestorref01_Generator.j0] at H
   by_cases c5 : x6_2 = true
   ·subst c5
    rw [if_pos rfl] at H
    obtain rfl := Option.some.inj H
    go_wp2
    go_ret
    exact ⟨by first | rfl | (simp; done) | (simp [*]; done), by repeat (first | exact Drawn0.refl _ | apply Drawn0.step)⟩
   replace c5 := Bool.eq_false_iff.mpr c5
   subst c5
   rw [if_neg (show ¬ (false = true) by decide)] at H
   by_cases c6 : a0 = 2
   ·rw [if_pos c6] at H
    have c6b0 := beq_iff_eq.mpr c6
    have c6b1 := bne_eq_false_iff_eq.mpr c6
    clear c6
    obtain rfl := Option.some.inj H
    go_wp2
    go_ret
    exact ⟨by first | rfl | (simp; done) | (simp [*]; done), by repeat (first | exact Drawn0.refl _ | apply Drawn0.step)⟩
   rw [if_neg c6] at H
   have c6b0 := beq_eq_false_iff_ne.mpr c6
   have c6b1 := bne_iff_ne.mpr c6
   obtain rfl := Option.some.inj H
   go_wp2
   go_ret
   exact ⟨by first | rfl | (simp; done) | (simp [*]; done), by repeat (first | exact Drawn0.refl _ | apply Drawn0.step)⟩

mutual
def attestorref01_Root.j0 : Nat → Int → Int → Bool → Option (Int)
 | 0, _, _, _ => none
 | k + 1, x0, x1, x19 => if x19 = true then (some 0) else ((attestorref01_P.f x0).bind fun t175 => (attestorref01_Root.l0 k x0 x1 (IntKind.u64.wrap (t175 - 1)) 0))
def attestorref01_Root.l0 : Nat → Int → Int → Int → Int → Option (Int)
 | 0, _, _, _, _ => none
 | k + 1, x0, x1, x5, x6 => if x6 < x1 then (attestorref01_Root.l0 k x0 x1 (IntKind.u64.wrap (Int.tdiv x5 2)) (wrap64 (x6 + 1))) else ((attestorref01_Generator.f k x0).bind fun t176 => ((attestorref01_Pow.f k x0 t176 x5).bind fun t177 => (some t177)))
end
def attestorref01_Root.f (k : Nat) (a0 : Int) (a1 : Int) : Option (Int) := (attestorref01_Valid.f a0).bind fun t173 => (if t173 = true then (if a1 < 0 then (attestorref01_Root.j0 k a0 a1 true) else ((attestorref01_Twos.f a0).bind fun t174 => (attestorref01_Root.j0 k a0 a1 (decide (a1 > t174))))) else (attestorref01_Root.j0 k a0 a1 true))
set_option maxHeartbeats 8000000 in
set_option maxRecDepth 100000 in
theorem attestorref01_Root.calls (k : Nat) (a0 : Int) (a1 : Int) (r : Int) (w : World) (h : attestorref01_Root.f k a0 a1 = some r) :
  Calls Tryd.prog 48 #[.int .i64 a0, .int .i64 a1] w fun e w' => e = .returned (.int .u64 r) ∧ Drawn0 w w' := by
 have H := h
 clear h
 unfold attestorref01_Root.f at H
 have HC3 := ak H
 clear H
 go_enter Tryd.func48, Tryd.ntmps48
 go_upto_region 1 with (fail)
 go_cut [19] (fun v19 wc => ∃ (kq : Nat) (x19_2 : Bool), v19 = .bool x19_2 ∧ Aside0 (attestorref01_Root.j0 kq a0 a1 x19_2 = some r) ∧ Aside0 (kq ≤ k) ∧ Drawn0 w wc)
 case first =>
  have H := HC3.out
  clear HC3
  revert H
  refine bd_ fun t173 A4 H => ?_
  by_cases c5 : t173 = true
  ·subst c5
   rw [if_pos rfl] at H
   by_cases c6 : a1 < 0
   ·rw [if_pos c6] at H
    have c6b0 := decide_eq_true c6
    clear c6
    (first | rw [c6b0] | (simp only [i64_w, i32_w]; rw [c6b0]) | rw [c6b1] | skip)
    have H' := ak H
    clear H
    go_wp2_with (first | ((with_reducible refine gate_callee (f := 66) rfl ?_); refine gl_ (some 8) Tryd.func66 #[.int .i64 a0] ?_; (with_reducible refine (attestorref01_Valid.calls a0 true _ A4.out).mono ?_); rintro e w' ⟨rfl, ⟨nd, rfl⟩⟩; refine ⟨_, rfl, ?_⟩))
    go_meet
    case rel => exact ⟨_, (true), gb_, H', ⟨by first | omega | exact Nat.le_refl _⟩, by repeat (first | exact Drawn0.refl _ | apply Drawn0.step)⟩
   rw [if_neg c6] at H
   have c6b0 := decide_eq_false c6
   clear c6
   (first | rw [c6b0] | (simp only [i64_w, i32_w]; rw [c6b0]) | rw [c6b1] | skip)
   revert H
   refine bd_ fun t174 A7 H => ?_
   have H' := ak H
   clear H
   go_wp2_with (first | ((with_reducible refine gate_callee (f := 66) rfl ?_); refine gl_ (some 8) Tryd.func66 #[.int .i64 a0] ?_; (with_reducible refine (attestorref01_Valid.calls a0 true _ A4.out).mono ?_); rintro e w' ⟨rfl, ⟨nd, rfl⟩⟩; refine ⟨_, rfl, ?_⟩) | (go_at_call 69; (with_reducible refine (attestorref01_Twos.calls a0 t174 _ A7.out).mono ?_); rintro e w' ⟨rfl, ⟨nd, rfl⟩⟩))
   go_meet
   case rel => exact ⟨_, (decide (a1 > t174)), gb_, H', ⟨by first | omega | exact Nat.le_refl _⟩, by repeat (first | exact Drawn0.refl _ | apply Drawn0.step)⟩
  replace c5 := Bool.eq_false_iff.mpr c5
  subst c5
  rw [if_neg (show ¬ (false = true) by decide)] at H
  have H' := ak H
  clear H
  go_wp2_with (first | ((with_reducible refine gate_callee (f := 66) rfl ?_); refine gl_ (some 8) Tryd.func66 #[.int .i64 a0] ?_; (with_reducible refine (attestorref01_Valid.calls a0 false _ A4.out).mono ?_); rintro e w' ⟨rfl, ⟨nd, rfl⟩⟩; refine ⟨_, rfl, ?_⟩))
  go_meet
  case rel => exact ⟨_, (true), gb_, H', ⟨by first | omega | exact Nat.le_refl _⟩, by repeat (first | exact Drawn0.refl _ | apply Drawn0.step)⟩
 case rest =>
  clear HC3
  (try clear p2); (try clear c4); (try clear c5); (try clear c6); (try clear c6b0); (try clear c6b1)
  obtain ⟨kq, x19_2, rfl, HA, HJ2, ⟨mc2, rfl⟩⟩ := hcut
  cases kq with
  | zero => exact absurd HA.out (by simp [attestorref01_Root.j0])
  | succ kj2 =>
   have H := HA.out
   clear HA
   simp only [attestorref01_Root.j0] at H
   by_cases c8 : x19_2 = true
   ·subst c8
    rw [if_pos rfl] at H
    obtain rfl := Option.some.inj H
    go_wp2
    go_ret
    exact ⟨by first | rfl | (simp; done) | (simp [*]; done), by repeat (first | exact Drawn0.refl _ | apply Drawn0.step)⟩
   replace c8 := Bool.eq_false_iff.mpr c8
   subst c8
   rw [if_neg (show ¬ (false = true) by decide)] at H
   revert H
   refine bd_ fun t175 A9 H => ?_
   have H' := ak H
   clear H
   go_wp2_with (first | ((with_reducible refine gate_callee (f := 68) rfl ?_); refine gl_ (some 21) Tryd.func68 #[.int .i64 a0] ?_; (with_reducible refine (attestorref01_P.calls a0 t175 _ A9.out).mono ?_); rintro e w' ⟨rfl, ⟨nd, rfl⟩⟩; refine ⟨_, rfl, ?_⟩))
   go_loopg [5, 6] kj2 (fun kq v5 v6 w' => ∃ (x5_2 : Int) (x6_2 : Int), v5 = .int .u64 x5_2 ∧ v6 = .int .i64 x6_2 ∧ Aside0 (attestorref01_Root.l0 kq a0 a1 x5_2 x6_2 = some r) ∧ Aside0 (kq ≤ kj2) ∧ Drawn0 w w')
   case atStart => exact ⟨(IntKind.u64.wrap (t175 - 1)), (0), gb_, gb_, H', ⟨Nat.le_refl _⟩, by repeat (first | exact Drawn0.refl _ | apply Drawn0.step)⟩
   case round =>
    clear H'
    (try clear c2); (try clear p2); (try clear c4); (try clear c5); (try clear c6); (try clear c6b0); (try clear c6b1); (try clear c8)
    obtain ⟨x5_2, x6_2, rfl, rfl, HA, HK2, ⟨m2, rfl⟩⟩ := hrel
    cases gk with
    | zero => exact absurd HA.out (by simp [attestorref01_Root.l0])
    | succ k2 =>
     have H := HA.out
     clear HA
     simp only [attestorref01_Root.l0] at H
     by_cases c10 : x6_2 < a1
     ·rw [if_pos c10] at H
      have c10b0 := decide_eq_true c10
      clear c10
      have H' := ak H
      clear H
      go_wp2
      go_roundg k2
      case measure => have := HJ2.out; have := HK2.out; omega
      case rel => exact ⟨(IntKind.u64.wrap (Int.tdiv x5_2 2)), (wrap64 (x6_2 + 1)), gb_, gb_, H', ⟨by have := HJ2.out; have := HK2.out; omega⟩, by repeat (first | exact Drawn0.refl _ | apply Drawn0.step)⟩
     rw [if_neg c10] at H
     have c10b0 := decide_eq_false c10
     clear c10
     revert H
     refine bd_ fun t176 A11 H => ?_
     revert H
     refine bd_ fun t177 A12 H => ?_
     obtain rfl := Option.some.inj H
     go_wp2_with (first | ((with_reducible refine gate_callee (f := 70) rfl ?_); refine gl_ (some 32) Tryd.func70 #[.int .i64 a0] ?_; (with_reducible refine (attestorref01_Generator.calls k2 a0 t176 _ A11.out).mono ?_); rintro e w' ⟨rfl, ⟨nd, rfl⟩⟩; refine ⟨_, rfl, ?_⟩) | ((with_reducible refine gate_callee (f := 45) rfl ?_); refine gl_ (some 34) Tryd.func45 #[.int .i64 a0, .int .u64 t176, .int .u64 x5_2] ?_; (with_reducible refine (attestorref01_Pow.calls k2 a0 t176 x5_2 t177 _ A12.out).mono ?_); rintro e w' ⟨rfl, ⟨nd, rfl⟩⟩; refine ⟨_, rfl, ?_⟩))
     go_ret
     exact ⟨by first | rfl | (simp; done) | (simp [*]; done), by repeat (first | exact Drawn0.refl _ | apply Drawn0.step)⟩

def attestorref01_Add.f (a0 : Int) (a1 : Int) (a2 : Int) : Option (Int) := (attestorref01_Valid.f a0).bind fun t178 => (if t178 = true then ((attestorref01_P.f a0).bind fun t179 => (if t179 = 0 then (none) else (some (Int.tmod (IntKind.u64.wrap ((Int.tmod a1 t179) + (Int.tmod a2 t179))) t179)))) else (some 0))
set_option maxHeartbeats 8000000 in
set_option maxRecDepth 100000 in
theorem attestorref01_Add.calls (a0 : Int) (a1 : Int) (a2 : Int) (r : Int) (w : World) (h : attestorref01_Add.f a0 a1 a2 = some r) :
  Calls Tryd.prog 76 #[.int .i64 a0, .int .u64 a1, .int .u64 a2] w fun e w' => e = .returned (.int .u64 r) ∧ Drawn0 w w' := by
 have H := h
 clear h
 unfold attestorref01_Add.f at H
 revert H
 refine bd_ fun t178 A4 H => ?_
 by_cases c5 : t178 = true
 ·subst c5
  rw [if_pos rfl] at H
  revert H
  refine bd_ fun t179 A6 H => ?_
  by_cases c7 : t179 = 0
  ·rw [if_pos c7] at H
   exact absurd H (by simp)
  rw [if_neg c7] at H
  have c7b0 := beq_eq_false_iff_ne.mpr c7
  have c7b1 := bne_iff_ne.mpr c7
  obtain rfl := Option.some.inj H
  go_enter Tryd.func76, Tryd.ntmps76
  go_wp2_with (first | (go_at_call 66; (with_reducible refine (attestorref01_Valid.calls a0 true _ A4.out).mono ?_); rintro e w' ⟨rfl, ⟨nd, rfl⟩⟩; (try first | exact ⟨rfl, _, World.drewN_drewN _ _ _⟩ | exact ⟨rfl, _, dd_⟩)) | (go_at_call 68; (with_reducible refine (attestorref01_P.calls a0 t179 _ A6.out).mono ?_); rintro e w' ⟨rfl, ⟨nd, rfl⟩⟩; (try first | exact ⟨rfl, _, World.drewN_drewN _ _ _⟩ | exact ⟨rfl, _, dd_⟩)))
  repeat (go_quiet (first | (go_at_call 66; (with_reducible refine (attestorref01_Valid.calls a0 true _ A4.out).mono ?_); rintro e w' ⟨rfl, ⟨nd, rfl⟩⟩; (try first | exact ⟨rfl, _, World.drewN_drewN _ _ _⟩ | exact ⟨rfl, _, dd_⟩)) | (go_at_call 68; (with_reducible refine (attestorref01_P.calls a0 t179 _ A6.out).mono ?_); rintro e w' ⟨rfl, ⟨nd, rfl⟩⟩; (try first | exact ⟨rfl, _, World.drewN_drewN _ _ _⟩ | exact ⟨rfl, _, dd_⟩))); try go_wp2_with (first | (go_at_call 66; (with_reducible refine (attestorref01_Valid.calls a0 true _ A4.out).mono ?_); rintro e w' ⟨rfl, ⟨nd, rfl⟩⟩; (try first | exact ⟨rfl, _, World.drewN_drewN _ _ _⟩ | exact ⟨rfl, _, dd_⟩)) | (go_at_call 68; (with_reducible refine (attestorref01_P.calls a0 t179 _ A6.out).mono ?_); rintro e w' ⟨rfl, ⟨nd, rfl⟩⟩; (try first | exact ⟨rfl, _, World.drewN_drewN _ _ _⟩ | exact ⟨rfl, _, dd_⟩))))
  go_ret
  exact ⟨by first | rfl | (simp; done) | (simp [*]; done), by repeat (first | exact Drawn0.refl _ | apply Drawn0.step)⟩
 replace c5 := Bool.eq_false_iff.mpr c5
 subst c5
 rw [if_neg (show ¬ (false = true) by decide)] at H
 obtain rfl := Option.some.inj H
 go_enter Tryd.func76, Tryd.ntmps76
 go_wp2_with (first | (go_at_call 66; (with_reducible refine (attestorref01_Valid.calls a0 false _ A4.out).mono ?_); rintro e w' ⟨rfl, ⟨nd, rfl⟩⟩; (try first | exact ⟨rfl, _, World.drewN_drewN _ _ _⟩ | exact ⟨rfl, _, dd_⟩)))
 repeat (go_quiet (first | (go_at_call 66; (with_reducible refine (attestorref01_Valid.calls a0 false _ A4.out).mono ?_); rintro e w' ⟨rfl, ⟨nd, rfl⟩⟩; (try first | exact ⟨rfl, _, World.drewN_drewN _ _ _⟩ | exact ⟨rfl, _, dd_⟩))); try go_wp2_with (first | (go_at_call 66; (with_reducible refine (attestorref01_Valid.calls a0 false _ A4.out).mono ?_); rintro e w' ⟨rfl, ⟨nd, rfl⟩⟩; (try first | exact ⟨rfl, _, World.drewN_drewN _ _ _⟩ | exact ⟨rfl, _, dd_⟩))))
 go_ret
 exact ⟨by first | rfl | (simp; done) | (simp [*]; done), by repeat (first | exact Drawn0.refl _ | apply Drawn0.step)⟩

def attestorref03_Eval.l0 : Nat → Int → List Int → Int → Int → Int → Int → Option (Int)
 | 0, _, _, _, _, _, _ => none
 | k + 1, x0, x1, x2, x7, x8, x9 => if x9 < (x1.length : Int) then (if 0 ≤ x9 then ((attestorref01_Mul.f x0 (rd x1 x9) x8).bind fun t181 => ((attestorref01_Add.f x0 x7 t181).bind fun t182 => ((attestorref01_Mul.f x0 x8 x2).bind fun t183 => (attestorref03_Eval.l0 k x0 x1 x2 t182 t183 (wrap64 (x9 + 1)))))) else (none)) else (some x7)
def attestorref03_Eval.f (k : Nat) (a0 : Int) (l1 : List Int) (a2 : Int) : Option (Int) := attestorref03_Eval.l0 k a0 l1 a2 0 1 0
set_option maxHeartbeats 8000000 in
set_option maxRecDepth 100000 in
theorem attestorref03_Eval.calls (k : Nat) (a0 : Int) (A1 : Option Addr) (c1 : Nat) (l1 : List Int) (a2 : Int) (r : Int) (w : World) (hr1 : Kd.C (Kd.int .u64) w A1 l1.length l1) (hc1 : l1.length ≤ c1) (h : attestorref03_Eval.f k a0 l1 a2 = some r) :
  Calls Tryd.prog 51 #[.int .i64 a0, .slice A1 l1.length c1, .int .u64 a2] w fun e w' => e = .returned (.int .u64 r) ∧ Drawn0 w w' := by
 have HR1 := ak hr1
 have HC1 := ak hc1
 clear hr1 hc1
 have H : (attestorref03_Eval.l0 k a0 l1 a2 0 1 0) = some r := h
 clear h
 have H' := ak H
 clear H
 go_enter Tryd.func51, Tryd.ntmps51
 go_wp2
 go_loopg [7, 8, 9] k (fun kq v7 v8 v9 w' => ∃ (x7_1 : Int) (x8_1 : Int) (x9_1 : Int), v7 = .int .u64 x7_1 ∧ v8 = .int .u64 x8_1 ∧ v9 = .int .i64 x9_1 ∧ Aside0 (attestorref03_Eval.l0 kq a0 l1 a2 x7_1 x8_1 x9_1 = some r) ∧ Aside0 (kq ≤ k) ∧ Drawn0 w w')
 case atStart => exact ⟨(0), (1), (0), gb_, gb_, gb_, H', ⟨Nat.le_refl _⟩, by repeat (first | exact Drawn0.refl _ | apply Drawn0.step)⟩
 case round =>
  clear H'
  (try clear c1); (try clear p2)
  obtain ⟨x7_1, x8_1, x9_1, rfl, rfl, rfl, HA, HK1, ⟨m1, rfl⟩⟩ := hrel
  cases gk with
  | zero => exact absurd HA.out (by simp [attestorref03_Eval.l0])
  | succ k1 =>
   have H := HA.out
   clear HA
   simp only [attestorref03_Eval.l0] at H
   by_cases c4 : x9_1 < (l1.length : Int)
   ·rw [if_pos c4] at H
    have c4b0 := decide_eq_true c4
    clear c4
    obtain ⟨c5, H⟩ : (0 ≤ x9_1) ∧ _ := it_ H
    have c5b0 := decide_eq_true c5
    clear c5
    revert H
    refine bd_ fun t181 A6 H => ?_
    revert H
    refine bd_ fun t182 A7 H => ?_
    revert H
    refine bd_ fun t183 A8 H => ?_
    have H' := ak H
    clear H
    have p180 : 0 ≤ (x9_1 : Int) := od_
    have q180 : x9_1 < (l1.length : Int) := od_
    obtain ⟨ad180, e180, hx180_0⟩ := Kd.at_int HR1.out x9_1 p180 q180
    cases e180
    replace p180 := eq_true p180
    replace q180 := eq_true q180
    go_wp2_with (first | ((with_reducible refine gate_callee (f := 49) rfl ?_); refine gl_ (some 24) Tryd.func49 #[.int .i64 a0, .int .u64 (rd l1 x9_1), .int .u64 x8_1] ?_; (with_reducible refine (attestorref01_Mul.calls a0 (rd l1 x9_1) x8_1 t181 _ A6.out).mono ?_); rintro e w' ⟨rfl, ⟨nd, rfl⟩⟩; refine ⟨_, rfl, ?_⟩) | ((with_reducible refine gate_callee (f := 76) rfl ?_); refine gl_ (some 25) Tryd.func76 #[.int .i64 a0, .int .u64 x7_1, .int .u64 t181] ?_; (with_reducible refine (attestorref01_Add.calls a0 x7_1 t181 t182 _ A7.out).mono ?_); rintro e w' ⟨rfl, ⟨nd, rfl⟩⟩; refine ⟨_, rfl, ?_⟩) | ((with_reducible refine gate_callee (f := 49) rfl ?_); refine gl_ (some 29) Tryd.func49 #[.int .i64 a0, .int .u64 x8_1, .int .u64 a2] ?_; (with_reducible refine (attestorref01_Mul.calls a0 x8_1 a2 t183 _ A8.out).mono ?_); rintro e w' ⟨rfl, ⟨nd, rfl⟩⟩; refine ⟨_, rfl, ?_⟩))
    go_roundg k1
    case measure => have := HK1.out; omega
    case rel => exact ⟨(t182), (t183), (wrap64 (x9_1 + 1)), gb_, gb_, gb_, H', ⟨by have := HK1.out; omega⟩, by repeat (first | exact Drawn0.refl _ | apply Drawn0.step)⟩
   rw [if_neg c4] at H
   have c4b0 := decide_eq_false c4
   clear c4
   obtain rfl := Option.some.inj H
   go_wp2
   go_ret
   exact ⟨by first | rfl | (simp; done) | (simp [*]; done), by repeat (first | exact Drawn0.refl _ | apply Drawn0.step)⟩

def attestorref01_Sub.f (a0 : Int) (a1 : Int) (a2 : Int) : Option (Int) := (attestorref01_Valid.f a0).bind fun t184 => (if t184 = true then ((attestorref01_P.f a0).bind fun t185 => (if t185 = 0 then (none) else (some (Int.tmod (IntKind.u64.wrap ((IntKind.u64.wrap ((Int.tmod a1 t185) + t185)) - (Int.tmod a2 t185))) t185)))) else (some 0))
set_option maxHeartbeats 8000000 in
set_option maxRecDepth 100000 in
theorem attestorref01_Sub.calls (a0 : Int) (a1 : Int) (a2 : Int) (r : Int) (w : World) (h : attestorref01_Sub.f a0 a1 a2 = some r) :
  Calls Tryd.prog 71 #[.int .i64 a0, .int .u64 a1, .int .u64 a2] w fun e w' => e = .returned (.int .u64 r) ∧ Drawn0 w w' := by
 have H := h
 clear h
 unfold attestorref01_Sub.f at H
 revert H
 refine bd_ fun t184 A4 H => ?_
 by_cases c5 : t184 = true
 ·subst c5
  rw [if_pos rfl] at H
  revert H
  refine bd_ fun t185 A6 H => ?_
  by_cases c7 : t185 = 0
  ·rw [if_pos c7] at H
   exact absurd H (by simp)
  rw [if_neg c7] at H
  have c7b0 := beq_eq_false_iff_ne.mpr c7
  have c7b1 := bne_iff_ne.mpr c7
  obtain rfl := Option.some.inj H
  go_enter Tryd.func71, Tryd.ntmps71
  go_wp2_with (first | (go_at_call 66; (with_reducible refine (attestorref01_Valid.calls a0 true _ A4.out).mono ?_); rintro e w' ⟨rfl, ⟨nd, rfl⟩⟩; (try first | exact ⟨rfl, _, World.drewN_drewN _ _ _⟩ | exact ⟨rfl, _, dd_⟩)) | (go_at_call 68; (with_reducible refine (attestorref01_P.calls a0 t185 _ A6.out).mono ?_); rintro e w' ⟨rfl, ⟨nd, rfl⟩⟩; (try first | exact ⟨rfl, _, World.drewN_drewN _ _ _⟩ | exact ⟨rfl, _, dd_⟩)))
  repeat (go_quiet (first | (go_at_call 66; (with_reducible refine (attestorref01_Valid.calls a0 true _ A4.out).mono ?_); rintro e w' ⟨rfl, ⟨nd, rfl⟩⟩; (try first | exact ⟨rfl, _, World.drewN_drewN _ _ _⟩ | exact ⟨rfl, _, dd_⟩)) | (go_at_call 68; (with_reducible refine (attestorref01_P.calls a0 t185 _ A6.out).mono ?_); rintro e w' ⟨rfl, ⟨nd, rfl⟩⟩; (try first | exact ⟨rfl, _, World.drewN_drewN _ _ _⟩ | exact ⟨rfl, _, dd_⟩))); try go_wp2_with (first | (go_at_call 66; (with_reducible refine (attestorref01_Valid.calls a0 true _ A4.out).mono ?_); rintro e w' ⟨rfl, ⟨nd, rfl⟩⟩; (try first | exact ⟨rfl, _, World.drewN_drewN _ _ _⟩ | exact ⟨rfl, _, dd_⟩)) | (go_at_call 68; (with_reducible refine (attestorref01_P.calls a0 t185 _ A6.out).mono ?_); rintro e w' ⟨rfl, ⟨nd, rfl⟩⟩; (try first | exact ⟨rfl, _, World.drewN_drewN _ _ _⟩ | exact ⟨rfl, _, dd_⟩))))
  go_ret
  exact ⟨by first | rfl | (simp; done) | (simp [*]; done), by repeat (first | exact Drawn0.refl _ | apply Drawn0.step)⟩
 replace c5 := Bool.eq_false_iff.mpr c5
 subst c5
 rw [if_neg (show ¬ (false = true) by decide)] at H
 obtain rfl := Option.some.inj H
 go_enter Tryd.func71, Tryd.ntmps71
 go_wp2_with (first | (go_at_call 66; (with_reducible refine (attestorref01_Valid.calls a0 false _ A4.out).mono ?_); rintro e w' ⟨rfl, ⟨nd, rfl⟩⟩; (try first | exact ⟨rfl, _, World.drewN_drewN _ _ _⟩ | exact ⟨rfl, _, dd_⟩)))
 repeat (go_quiet (first | (go_at_call 66; (with_reducible refine (attestorref01_Valid.calls a0 false _ A4.out).mono ?_); rintro e w' ⟨rfl, ⟨nd, rfl⟩⟩; (try first | exact ⟨rfl, _, World.drewN_drewN _ _ _⟩ | exact ⟨rfl, _, dd_⟩))); try go_wp2_with (first | (go_at_call 66; (with_reducible refine (attestorref01_Valid.calls a0 false _ A4.out).mono ?_); rintro e w' ⟨rfl, ⟨nd, rfl⟩⟩; (try first | exact ⟨rfl, _, World.drewN_drewN _ _ _⟩ | exact ⟨rfl, _, dd_⟩))))
 go_ret
 exact ⟨by first | rfl | (simp; done) | (simp [*]; done), by repeat (first | exact Drawn0.refl _ | apply Drawn0.step)⟩

mutual
def attestorref03_Normal.l0 : Nat → Int → List Int → List Int → Int → Option (List Int)
 | 0, _, _, _, _ => none
 | k + 1, x0, x1, x5, x6 => if x6 < (x1.length : Int) then (if 0 ≤ x6 then ((attestorref01_Reduce.f x0 (rd x1 x6)).bind fun t188 => (if x5.length < 17592186044416 then (attestorref03_Normal.l0 k x0 x1 (x5 ++ [t188]) (wrap64 (x6 + 1))) else (none))) else (none)) else (attestorref03_Normal.l1 k x5 (x5.length : Int))
def attestorref03_Normal.l1 : Nat → List Int → Int → Option (List Int)
 | 0, _, _ => none
 | k + 1, x5, x7 => if x7 > 0 then (if 0 ≤ (wrap64 (x7 - 1)) then (if (wrap64 (x7 - 1)) < (x5.length : Int) then (if (rd x5 (wrap64 (x7 - 1))) = 0 then (attestorref03_Normal.l1 k x5 (wrap64 (x7 - 1))) else (if 0 ≤ x7 then (if x7 ≤ (x5.length : Int) then (some (x5.take (x7 : Int).toNat)) else (none)) else (none))) else (none)) else (none)) else (if 0 ≤ x7 then (if x7 ≤ (x5.length : Int) then (some (x5.take (x7 : Int).toNat)) else (none)) else (none))
end
def attestorref03_Normal.f (k : Nat) (a0 : Int) (l1 : List Int) : Option (List Int) := (attestorref01_Valid.f a0).bind fun t186 => (if t186 = true then (attestorref03_Normal.l0 k a0 l1 ([] : List Int) 0) else (some ([] : List Int)))
set_option maxHeartbeats 8000000 in
set_option maxRecDepth 100000 in
theorem attestorref03_Normal.calls (k : Nat) (a0 : Int) (A1 : Option Addr) (c1 : Nat) (l1 : List Int) (r : List Int) (w : World) (hr1 : Kd.C (Kd.int .u64) w A1 l1.length l1) (hc1 : l1.length ≤ c1) (h : attestorref03_Normal.f k a0 l1 = some r) :
  Calls Tryd.prog 87 #[.int .i64 a0, .slice A1 l1.length c1] w fun e w' => ∃ v0_ : Value, e = .returned (v0_) ∧ Kd.R (Kd.int .u64) 22 w' w.heap.size (fun _ => True) v0_ r ∧ Below w.heap.size w w' := by
 have HR1 := ak hr1
 have HC1 := ak hc1
 clear hr1 hc1
 have HB := ak (Below.refl w.heap.size w)
 have H := h
 clear h
 unfold attestorref03_Normal.f at H
 revert H
 refine bd_ fun t186 A3 H => ?_
 by_cases c4 : t186 = true
 ·subst c4
  rw [if_pos rfl] at H
  have H' := ak H
  clear H
  go_enter Tryd.func87, Tryd.ntmps87
  go_wp2_with (first | ((with_reducible refine gate_callee (f := 66) rfl ?_); refine gl_ (some 9) Tryd.func66 #[.int .i64 a0] ?_; (with_reducible refine (attestorref01_Valid.calls a0 true _ A3.out).mono ?_); rintro e w' ⟨rfl, ⟨nd, rfl⟩⟩; refine ⟨_, rfl, ?_⟩))
  go_loopg [5, 6] k (fun kq v5 v6 w' => ∃ (x5_1 : List Int) (x6_1 : Int), v6 = .int .i64 x6_1 ∧ Aside0 (attestorref03_Normal.l0 kq a0 l1 x5_1 x6_1 = some r) ∧ Aside0 (kq ≤ k) ∧ Aside0 (Kd.R (Kd.int .u64) 22 w' w.heap.size (fun _ => True) v5 x5_1) ∧ Aside0 (Below w.heap.size w w'))
  case atStart => exact ⟨(([] : List Int)), (0), gb_, H', ⟨Nat.le_refl _⟩, ⟨by first | exact Kd.R_nil _ _ _ _ _ | exact Kd.N_nil _ _ _ _ _ | exact Kd.V_nil _ _ _ _ _ | exact Kd.Q_nil _ _ _ _ _ | exact Kd.S_nil _ _ _ _ _⟩, ⟨bU_ HB.out⟩⟩
  case round =>
   clear H'
   (try clear c1); (try clear p2); (try clear c4)
   obtain ⟨x5_1, x6_1, rfl, HA, HK1, HO_5, HB⟩ := hrel
   cases gk with
   | zero => exact absurd HA.out (by simp [attestorref03_Normal.l0])
   | succ k1 =>
    have H := HA.out
    clear HA
    simp only [attestorref03_Normal.l0] at H
    by_cases c5 : x6_1 < (l1.length : Int)
    ·rw [if_pos c5] at H
     have c5b0 := decide_eq_true c5
     clear c5
     obtain ⟨c6, H⟩ : (0 ≤ x6_1) ∧ _ := it_ H
     have c6b0 := decide_eq_true c6
     clear c6
     revert H
     refine bd_ fun t188 A7 H => ?_
     obtain ⟨c8, H⟩ : (x5_1.length < 17592186044416) ∧ _ := it_ H
     have LMc8 := ak c8
     clear c8
     obtain ⟨y189, hy189⟩ : ∃ y_ : List Int, y_ = (x5_1 ++ [t188]) := ⟨_, rfl⟩
     first | rw [Option.bind_some, ← hy189] at H | rw [← hy189] at H
     have Ny189 := ak hy189
     clear hy189
     have H' := ak H
     clear H
     have p187 : 0 ≤ (x6_1 : Int) := od_
     have q187 : x6_1 < (l1.length : Int) := od_
     obtain ⟨ad187, e187, hx187_0⟩ := Kd.at_int HR1.out x6_1 p187 q187
     cases e187
     replace hx187_0 := (HB.out.cell (World.block_lt_of_cell? w _ hx187_0)).trans hx187_0
     replace p187 := eq_true p187
     replace q187 := eq_true q187
     go_wp2_with (first | ((with_reducible refine gate_callee (f := 47) rfl ?_); refine gl_ (some 24) Tryd.func47 #[.int .i64 a0, .int .u64 (rd l1 x6_1)] ?_; (with_reducible refine (attestorref01_Reduce.calls a0 (rd l1 x6_1) t188 _ A7.out).mono ?_); rintro e w' ⟨rfl, ⟨nd, rfl⟩⟩; refine ⟨_, rfl, ?_⟩) | ((with_reducible refine gate_builtin (b := .append) (xs := #[.tmp 18, .tmp 25]) rfl ?_); at_builtin; refine Kd.R_append (Kd.int .u64) (w0 := w) w.heap.size rfl (.tmp 18) (.tmp 25) 33 22 (.int .u64 0) 8 rfl Tryd.underlying33 info22 rfl (by decide) (by omega) u5 x5_1 t188 [.int .u64 t188] (fun _ => True) (fun _ => False) rfl rfl ?aP (fun _ hk => hk.elim) ?aF ?aO ?aB ?aS ?aL ?_; (case aP => exact rfl); (case aB => exact (bU_ HB.out)); (case aF => exact (fun _ _ => trivial)); (case aO => exact (rU_ HO_5.out)); (case aS => exact (below_size (bU_ HB.out))); (case aL => have := LMc8.out; omega); intro v190 w9 ho hb hg hat; rw [← Ny189.out] at ho; refine nx2_ (hb) (ho) ?_; clear HB HO_5; intro HB HO191; clear ho hb hg hat))
     go_roundg k1
     case measure => have := HK1.out; omega
     case rel => exact ⟨(y189), (wrap64 (x6_1 + 1)), gb_, H', ⟨by have := HK1.out; omega⟩, ⟨rU_ HO191.out⟩, ⟨bU_ HB.out⟩⟩
    rw [if_neg c5] at H
    have c5b0 := decide_eq_false c5
    clear c5
    have H' := ak H
    clear H
    obtain ⟨Ao10, co10, eo10⟩ := R_slice HO_5.out
    subst eo10
    go_wp2
    go_loopg [7] k1 (fun kq v7 w' => ∃ (x7_2 : Int), v7 = .int .i64 x7_2 ∧ Aside0 (attestorref03_Normal.l1 kq x5_1 x7_2 = some r) ∧ Aside0 (kq ≤ k1) ∧ Aside0 (Kd.R (Kd.int .u64) 22 w' w.heap.size (fun _ => True) (.slice Ao10 x5_1.length co10) x5_1) ∧ Aside0 (Below w.heap.size w w'))
    case atStart => exact ⟨((x5_1.length : Int)), gb_, H', ⟨Nat.le_refl _⟩, ⟨rU_ HO_5.out⟩, ⟨bU_ HB.out⟩⟩
    case round =>
     clear H'
     (try clear c1); (try clear p1); (try clear q1); (try clear hx1); (try clear p2); (try clear c4); (try clear c5); (try clear c5b0); (try clear c6); (try clear c6b0); (try clear p6); (try clear c8); (try clear hx187_0); (try clear p187); (try clear q187)
     obtain ⟨x7_2, rfl, HA, HK2, HO_5, HB⟩ := hrel
     cases gk with
     | zero => exact absurd HA.out (by simp [attestorref03_Normal.l1])
     | succ k2 =>
      have H := HA.out
      clear HA
      simp only [attestorref03_Normal.l1] at H
      by_cases c11 : x7_2 > 0
      ·rw [if_pos c11] at H
       have c11b0 : decide (0 < x7_2) = true := decide_eq_true c11
       clear c11
       obtain ⟨ji12, hji12⟩ : ∃ j_ : Int, (wrap64 (x7_2 - 1)) = j_ := ⟨_, rfl⟩
       first | rw [hji12] at H | simp only [hji12] at H
       have hji12w : (IntKind.i64.wrap (x7_2 - 1)) = ji12 := (i64_w _).trans hji12
       obtain ⟨c13, H⟩ : (0 ≤ (ji12)) ∧ _ := it_ H
       have c13b0 := decide_eq_true c13
       clear c13
       obtain ⟨c14, H⟩ : ((ji12) < (x5_1.length : Int)) ∧ _ := it_ H
       have c14b0 := decide_eq_true c14
       clear c14
       by_cases c15 : (rd x5_1 (ji12)) = 0
       ·rw [if_pos c15] at H
        have c15b0 := beq_iff_eq.mpr c15
        have c15b1 := bne_eq_false_iff_eq.mpr c15
        clear c15
        have H' := ak H
        clear H
        have p192 : 0 ≤ ((ji12) : Int) := od_
        have q192 : (ji12) < (x5_1.length : Int) := od_
        obtain ⟨ad192, e192, hx192_0⟩ := Kd.at_int (R_reads' HO_5.out).2.2 (ji12) p192 q192
        cases e192
        replace p192 := eq_true p192
        replace q192 := eq_true q192
        go_wp2
        go_roundg k2
        case measure => have := HK1.out; have := HK2.out; omega
        case rel => exact ⟨(ji12), (by first | rfl | (simp; done) | (simp only [← hji12] <;> (first | rfl | simp)) | (simp [*]; done)), H', ⟨by have := HK1.out; have := HK2.out; omega⟩, ⟨rU_ HO_5.out⟩, ⟨bU_ HB.out⟩⟩
       rw [if_neg c15] at H
       have c15b0 := beq_eq_false_iff_ne.mpr c15
       have c15b1 := bne_iff_ne.mpr c15
       obtain ⟨c16, H⟩ : (0 ≤ x7_2) ∧ _ := it_ H
       have c16b0 := eq_true c16
       have c16b1 := decide_eq_true c16
       clear c16
       obtain ⟨c17, H⟩ : (x7_2 ≤ (x5_1.length : Int)) ∧ _ := it_ H
       have c17b0 := eq_true c17
       have c17b1 := decide_eq_true c17
       clear c17
       obtain ⟨y193, hy193⟩ : ∃ y_ : List Int, y_ = (x5_1.take (x7_2 : Int).toNat) := ⟨_, rfl⟩
       first | rw [Option.bind_some, ← hy193] at H | rw [← hy193] at H
       have Ny193 := ak hy193
       clear hy193
       obtain rfl := Option.some.inj H
       have p192 : 0 ≤ ((ji12) : Int) := od_
       have q192 : (ji12) < (x5_1.length : Int) := od_
       obtain ⟨ad192, e192, hx192_0⟩ := Kd.at_int (R_reads' HO_5.out).2.2 (ji12) p192 q192
       cases e192
       replace p192 := eq_true p192
       replace q192 := eq_true q192
       have q18 : (x7_2 : Int) ≤ ((x5_1.length : Int) : Int) := od_
       obtain ⟨i018, hi018, _, hsz18, _⟩ := info_parts info22
       have hcut18 := cut_to (P := Tryd.prog) 33 22 .i64 Tryd.underlying33 hi018 (some ad192) x5_1.length co10 x7_2 od_ q18 (R_reads' HO_5.out).2.1
       have hr18 := Kd.R_take (m := (x7_2 : Int).toNat) HO_5.out (by omega)
       have hy18 : y193.length = (x7_2 : Int).toNat := (by rw [Ny193.out, List.length_take]; omega)
       rw [← Ny193.out] at hr18
       rw [← hy18] at hr18 hcut18
       clear hy18 hi018 hsz18 HO_5
       have HO195 := ak hr18
       clear hr18
       replace q18 := eq_true q18
       go_wp2
       go_ret
       exact ⟨_, by first | rfl | (simp [errW_none, errW_some] <;> rfl) | (simp only [← hji12]; first | rfl | (simp [errW_none, errW_some] <;> rfl)) | (simp [*, errW_none, errW_some] <;> rfl), rU_ HO195.out, bU_ HB.out⟩
      rw [if_neg c11] at H
      have c11b0 : decide (0 < x7_2) = false := decide_eq_false c11
      clear c11
      obtain ⟨c19, H⟩ : (0 ≤ x7_2) ∧ _ := it_ H
      have c19b0 := eq_true c19
      have c19b1 := decide_eq_true c19
      clear c19
      obtain ⟨c20, H⟩ : (x7_2 ≤ (x5_1.length : Int)) ∧ _ := it_ H
      have c20b0 := eq_true c20
      have c20b1 := decide_eq_true c20
      clear c20
      obtain ⟨y196, hy196⟩ : ∃ y_ : List Int, y_ = (x5_1.take (x7_2 : Int).toNat) := ⟨_, rfl⟩
      first | rw [Option.bind_some, ← hy196] at H | rw [← hy196] at H
      have Ny196 := ak hy196
      clear hy196
      obtain rfl := Option.some.inj H
      have q21 : (x7_2 : Int) ≤ ((x5_1.length : Int) : Int) := od_
      obtain ⟨i021, hi021, _, hsz21, _⟩ := info_parts info22
      have hcut21 := cut_to (P := Tryd.prog) 33 22 .i64 Tryd.underlying33 hi021 Ao10 x5_1.length co10 x7_2 od_ q21 (R_reads' HO_5.out).2.1
      have hr21 := Kd.R_take (m := (x7_2 : Int).toNat) HO_5.out (by omega)
      have hy21 : y196.length = (x7_2 : Int).toNat := (by rw [Ny196.out, List.length_take]; omega)
      rw [← Ny196.out] at hr21
      rw [← hy21] at hr21 hcut21
      clear hy21 hi021 hsz21 HO_5
      have HO198 := ak hr21
      clear hr21
      replace q21 := eq_true q21
      go_wp2
      go_ret
      exact ⟨_, eW_, rU_ HO198.out, bU_ HB.out⟩
 replace c4 := Bool.eq_false_iff.mpr c4
 subst c4
 rw [if_neg (show ¬ (false = true) by decide)] at H
 obtain rfl := Option.some.inj H
 go_enter Tryd.func87, Tryd.ntmps87
 go_wp2_with (first | ((with_reducible refine gate_callee (f := 66) rfl ?_); refine gl_ (some 9) Tryd.func66 #[.int .i64 a0] ?_; (with_reducible refine (attestorref01_Valid.calls a0 false _ A3.out).mono ?_); rintro e w' ⟨rfl, ⟨nd, rfl⟩⟩; refine ⟨_, rfl, ?_⟩))
 go_ret
 exact ⟨_, eW_, by first | exact Kd.R_nil _ _ _ _ _ | exact Kd.N_nil _ _ _ _ _ | exact Kd.V_nil _ _ _ _ _ | exact Kd.Q_nil _ _ _ _ _ | exact Kd.S_nil _ _ _ _ _, bU_ HB.out⟩

end Go.Proofs.YthinfmfjpaikiaaDoor.Q

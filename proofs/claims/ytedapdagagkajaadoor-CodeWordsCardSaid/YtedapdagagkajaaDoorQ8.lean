import Derived.Test.YtedapdagagkajaaDoorQ0
import Derived.Test.YtedapdagagkajaaDoorQ7
namespace Go.Proofs.YtedapdagagkajaaDoor.Q
open Go.RowKit Go.Proofs.YtedapdagagkajaaDoorW.PrintWords Go.Proofs.YtedapdagagkajaaDoorW.PrintLast Go.Proofs.YtedapdagagkajaaDoorW.PrintMore
attribute [local go_sem] max2_int min2_int max_two min_two max_three min_three max_four min_four   -- for this text's walks alone
set_option linter.unusedVariables false
set_option linter.unusedSimpArgs false

def attestorref05_Valid.f (a0_0 : Int) (a0_1 : Int) (a0_2 : Int) : Option (Bool) := (attestorref01_Valid.f a0_0).bind fun t110 => (if t110 = true then (if a0_1 ≥ 0 then ((attestorref04_Greatest.f a0_0).bind fun t111 => (if a0_1 ≤ t111 then (if a0_2 > 0 then ((attestorref01_P.f a0_0).bind fun t112 => (some (decide (a0_2 < t112)))) else (some false)) else (some false))) else (some false)) else (some false))
def attestorref05_Valid.T1 : Bool × List (List Nat × List Nat) := (true, [([], []), ([0], [0]), ([1], [1]), ([2, 2], [2]), ([3], [3]), ([4, 3], [3, 4]), ([5, 3], [3, 5]), ([3, 6], [3, 6]), ([7, 3], [7]), ([8], [8]), ([9, 8], [8, 9]), ([8], [8]), ([11, 8], [8, 11]), ([12, 8, 8], [8, 12]), ([10, 13, 8], [8, 10, 13]), ([8, 14], [8, 14]), ([15, 13], [15]), ([16], [16]), ([17, 16], [16, 17]), ([18, 16], [16, 18]), ([16, 19], [16, 19]), ([20, 16], [20]), ([21], [21]), ([22, 21], [21, 22]), ([21], [21]), ([24, 21], [21, 24]), ([25, 21, 21], [21, 25]), ([23, 26, 21], [21, 23, 26]), ([21, 27], [21, 27]), ([28, 26, 0, 1, 2, 3, 4, 5, 6, 7, 8, 9, 10, 11, 12, 13, 14, 15, 16, 17, 18, 19, 20, 21, 22, 23, 24, 25, 26, 27, 28], [28])])
def attestorref05_Valid.B1 : List Nat := [0, 1, 3, 7, 15, 31, 63, 127, 255, 511, 1023, 511, 2559, 6655, 16383, 32767, 65535, 131071, 262143, 524287, 1048575, 2097151, 4194303, 8388607, 4194303, 20971519, 54525951, 134217727, 268435455, 536870911]
theorem attestorref05_Valid.tab1 : rtab .any (opsOf Tryd.f12 1) = attestorref05_Valid.T1 := by kernel_rfl
theorem attestorref05_Valid.bits1 : waitsOk attestorref05_Valid.T1.2 attestorref05_Valid.B1 = true := by kernel_rfl
set_option maxHeartbeats 8000000 in
set_option maxRecDepth 100000 in
theorem attestorref05_Valid.calls (a0_0 : Int) (a0_1 : Int) (a0_2 : Int) (r : Bool) (w : World) (h : attestorref05_Valid.f a0_0 a0_1 a0_2 = some r) :
  Calls Tryd.prog 12 #[.agg #[.int .i64 a0_0, .int .i64 a0_1, .int .u64 a0_2]] w fun e w' => e = .returned (.bool r) ∧ Below w.heap.size w w' := by
 have hu24 := Tryd.underlying24
 have HB := ak (Below.refl w.heap.size w)
 have H := h
 clear h
 unfold attestorref05_Valid.f at H
 revert H
 refine bd_ fun t110 A2 H => ?_
 by_cases c3 : t110 = true
 ·subst c3
  rw [if_pos rfl] at H
  by_cases c4 : a0_1 ≥ 0
  ·rw [if_pos c4] at H
   have c4b0 : decide (0 ≤ a0_1) = true := decide_eq_true c4
   clear c4
   revert H
   refine bd_ fun t111 A5 H => ?_
   by_cases c6 : a0_1 ≤ t111
   ·rw [if_pos c6] at H
    have c6b0 := decide_eq_true c6
    clear c6
    by_cases c7 : a0_2 > 0
    ·rw [if_pos c7] at H
     have c7b0 : decide (0 < a0_2) = true := decide_eq_true c7
     clear c7
     revert H
     refine bd_ fun t112 A8 H => ?_
     obtain rfl := Option.some.inj H
     go_enter Tryd.func12, Tryd.ntmps12
     try go_wp2_with (first | ((with_reducible refine gate_dst (N := 1) rfl ?_); refine bx_ 1 24 #[.int .i64 a0_0, .int .i64 a0_1, .int .u64 a0_2] ?_; intro gb109 hg w9 hbox hb; refine nx4_ (below_step (bU_ HB.out) hb) (hbox) ((hs_ hg (below_size (bU_ HB.out)))) ((hs_ hg (below_size (bU_ HB.out)))) ?_; clear HB; intro HB BK109 GW109 GE109; clear hb hbox hg))
     refine nx2_ (blk_drew BK109.out) (below_drew1 HB.out) ?_
     clear BK109 HB
     intro BK109 HB
     refine start_ (n := 30) (S := fun w' => w'.cell? ⟨gb109, 0, none⟩ = some (.int .i64 a0_0) ∧ w'.cell? ⟨gb109, 1, none⟩ = some (.int .i64 a0_1) ∧ w'.cell? ⟨gb109, 2, none⟩ = some (.int .u64 a0_2)) (ds := []) (bv 30 0) (by kernel_rfl) rfl rfl ⟨bc0_ BK109.out, bc1_ BK109.out, bc2_ BK109.out⟩ (fun hHeld => ?_); refine with_tabW attestorref05_Valid.tab1 attestorref05_Valid.bits1 (fun HT_ HW_ => ?_)
     generalize w9.drew = w10 at BK109 HB hHeld ⊢
     refine pq_ 0 3 30 1 HT_.out ?_
     refine tq_ 1 4 30 3 HT_.out HW_.out hHeld ?_
     refine oq_ 2 5 30 7 HT_.out fun K hK => ?_
     refine gs_ Tryd.func52 #[.int .i64 a0_0] ?_
     with_reducible refine (attestorref01_Valid.calls a0_0 true _ A2.out).mono ?_
     rintro e w' ⟨rfl, ⟨nd, rfl⟩⟩
     refine ⟨_, rfl, ?_⟩
     refine hK.out _ _ ⟨bc0_ BK109.out, bc1_ BK109.out, bc2_ BK109.out⟩ (fun hHeld => ?_)
     clear hK K
     refine norm_ (a' := ?_) ?_ ?_
     rotate_left
     ·show Act.put _ (some 5) _ = _
      simp only [Act.put, s1_, s2_, s3_, i64_w, i32_w]
      rfl
     refine pq_ 3 6 30 15 HT_.out ?_
     refine pq_ 4 7 30 31 HT_.out ?_
     refine tq_ 5 8 30 63 HT_.out HW_.out hHeld ?_
     refine pq_ 6 9 30 127 HT_.out ?_
     refine pq_ 7 10 30 255 HT_.out ?_
     refine pq_ 8 11 30 511 HT_.out ?_
     refine pq_ 9 12 30 1023 HT_.out ?_
     refine pq_ 11 14 30 3071 HT_.out ?_
     refine tq_ 10 13 30 4095 HT_.out HW_.out hHeld ?_
     refine tq_ 12 15 30 8191 HT_.out HW_.out hHeld ?_
     refine oq_ 13 16 30 16383 HT_.out fun K hK => ?_
     refine gs_ Tryd.func53 #[.int .i64 a0_0] ?_
     with_reducible refine (attestorref04_Greatest.calls a0_0 t111 _ A5.out).mono ?_
     rintro e w11 ⟨rfl, hb⟩
     refine ⟨_, rfl, ?_⟩
     refine nx2_ (blk_below (kU_ BK109.out) hb) (below_step sU_ hb) ?_
     clear BK109 HB
     intro BK109 HB
     (try clear hb)
     (try clear hb2)
     (try clear hk)
     (try clear hi)
     refine hK.out _ _ ⟨bc0_ BK109.out, bc1_ BK109.out, bc2_ BK109.out⟩ (fun hHeld => ?_)
     clear hK K
     refine norm_ (a' := ?_) ?_ ?_
     rotate_left
     ·show Act.put _ (some 16) _ = _
      simp only [Act.put, s1_, s2_, s3_, i64_w, i32_w]
      rfl
     refine pq_ 14 17 30 32767 HT_.out ?_
     refine pq_ 15 18 30 65535 HT_.out ?_
     refine pq_ 16 19 30 131071 HT_.out ?_
     refine pq_ 17 20 30 262143 HT_.out ?_
     refine tq_ 18 21 30 524287 HT_.out HW_.out hHeld ?_
     refine pq_ 19 22 30 1048575 HT_.out ?_
     refine pq_ 20 23 30 2097151 HT_.out ?_
     refine pq_ 21 24 30 4194303 HT_.out ?_
     refine pq_ 22 25 30 8388607 HT_.out ?_
     refine pq_ 24 27 30 25165823 HT_.out ?_
     refine tq_ 23 26 30 33554431 HT_.out HW_.out hHeld ?_
     refine tq_ 25 28 30 67108863 HT_.out HW_.out hHeld ?_
     refine oq_ 26 29 30 134217727 HT_.out fun K hK => ?_
     refine gs_ Tryd.func54 #[.int .i64 a0_0] ?_
     with_reducible refine (attestorref01_P.calls a0_0 t112 _ A8.out).mono ?_
     rintro e w' ⟨rfl, ⟨nd, rfl⟩⟩
     refine ⟨_, rfl, ?_⟩
     refine hK.out _ _ ⟨bc0_ BK109.out, bc1_ BK109.out, bc2_ BK109.out⟩ (fun hHeld => ?_)
     clear hK K
     refine norm_ (a' := ?_) ?_ ?_
     rotate_left
     ·show Act.put _ (some 29) _ = _
      simp only [Act.put, s1_, s2_, s3_, i64_w, i32_w]
      rfl
     refine pq_ 27 30 30 268435455 HT_.out ?_
     refine pq_ 28 31 30 536870911 HT_.out ?_
     refine pq_ 29 2 30 1073741823 HT_.out ?_
     refine done_ (done_of HT_.out (by kernel_rfl)) ?_
     try go_wp2
     go_ret
     exact ⟨eW_, sU_⟩
    rw [if_neg c7] at H
    have c7b0 : decide (0 < a0_2) = false := decide_eq_false c7
    clear c7
    obtain rfl := Option.some.inj H
    go_enter Tryd.func12, Tryd.ntmps12
    try go_wp2_with (first | ((with_reducible refine gate_dst (N := 1) rfl ?_); refine bx_ 1 24 #[.int .i64 a0_0, .int .i64 a0_1, .int .u64 a0_2] ?_; intro gb109 hg w12 hbox hb; refine nx4_ (below_step (bU_ HB.out) hb) (hbox) ((hs_ hg (below_size (bU_ HB.out)))) ((hs_ hg (below_size (bU_ HB.out)))) ?_; clear HB; intro HB BK109 GW109 GE109; clear hb hbox hg))
    refine nx2_ (blk_drew BK109.out) (below_drew1 HB.out) ?_
    clear BK109 HB
    intro BK109 HB
    refine start_ (n := 30) (S := fun w' => w'.cell? ⟨gb109, 0, none⟩ = some (.int .i64 a0_0) ∧ w'.cell? ⟨gb109, 1, none⟩ = some (.int .i64 a0_1) ∧ w'.cell? ⟨gb109, 2, none⟩ = some (.int .u64 a0_2)) (ds := []) (bv 30 0) (by kernel_rfl) rfl rfl ⟨bc0_ BK109.out, bc1_ BK109.out, bc2_ BK109.out⟩ (fun hHeld => ?_); refine with_tabW attestorref05_Valid.tab1 attestorref05_Valid.bits1 (fun HT_ HW_ => ?_)
    generalize w12.drew = w13 at BK109 HB hHeld ⊢
    refine pq_ 0 3 30 1 HT_.out ?_
    refine tq_ 1 4 30 3 HT_.out HW_.out hHeld ?_
    refine oq_ 2 5 30 7 HT_.out fun K hK => ?_
    refine gs_ Tryd.func52 #[.int .i64 a0_0] ?_
    with_reducible refine (attestorref01_Valid.calls a0_0 true _ A2.out).mono ?_
    rintro e w' ⟨rfl, ⟨nd, rfl⟩⟩
    refine ⟨_, rfl, ?_⟩
    refine hK.out _ _ ⟨bc0_ BK109.out, bc1_ BK109.out, bc2_ BK109.out⟩ (fun hHeld => ?_)
    clear hK K
    refine norm_ (a' := ?_) ?_ ?_
    rotate_left
    ·show Act.put _ (some 5) _ = _
     simp only [Act.put, s1_, s2_, s3_, i64_w, i32_w]
     rfl
    refine pq_ 3 6 30 15 HT_.out ?_
    refine pq_ 4 7 30 31 HT_.out ?_
    refine tq_ 5 8 30 63 HT_.out HW_.out hHeld ?_
    refine pq_ 6 9 30 127 HT_.out ?_
    refine pq_ 7 10 30 255 HT_.out ?_
    refine pq_ 8 11 30 511 HT_.out ?_
    refine pq_ 9 12 30 1023 HT_.out ?_
    refine pq_ 11 14 30 3071 HT_.out ?_
    refine tq_ 10 13 30 4095 HT_.out HW_.out hHeld ?_
    refine tq_ 12 15 30 8191 HT_.out HW_.out hHeld ?_
    refine oq_ 13 16 30 16383 HT_.out fun K hK => ?_
    refine gs_ Tryd.func53 #[.int .i64 a0_0] ?_
    with_reducible refine (attestorref04_Greatest.calls a0_0 t111 _ A5.out).mono ?_
    rintro e w14 ⟨rfl, hb⟩
    refine ⟨_, rfl, ?_⟩
    refine nx2_ (blk_below (kU_ BK109.out) hb) (below_step sU_ hb) ?_
    clear BK109 HB
    intro BK109 HB
    (try clear hb)
    (try clear hb2)
    (try clear hk)
    (try clear hi)
    refine hK.out _ _ ⟨bc0_ BK109.out, bc1_ BK109.out, bc2_ BK109.out⟩ (fun hHeld => ?_)
    clear hK K
    refine norm_ (a' := ?_) ?_ ?_
    rotate_left
    ·show Act.put _ (some 16) _ = _
     simp only [Act.put, s1_, s2_, s3_, i64_w, i32_w]
     rfl
    refine pq_ 14 17 30 32767 HT_.out ?_
    refine pq_ 15 18 30 65535 HT_.out ?_
    refine pq_ 16 19 30 131071 HT_.out ?_
    refine pq_ 17 20 30 262143 HT_.out ?_
    refine tq_ 18 21 30 524287 HT_.out HW_.out hHeld ?_
    refine pq_ 19 22 30 1048575 HT_.out ?_
    refine pq_ 20 23 30 2097151 HT_.out ?_
    refine pq_ 21 24 30 4194303 HT_.out ?_
    refine uq_ 22 25 30 8388607 HT_.out ?_
    refine uq_ 23 26 30 16777215 HT_.out ?_
    refine uq_ 24 27 30 33554431 HT_.out ?_
    refine uq_ 25 28 30 67108863 HT_.out ?_
    refine uq_ 26 29 30 134217727 HT_.out ?_
    refine uq_ 27 30 30 268435455 HT_.out ?_
    refine pq_ 28 31 30 536870911 HT_.out ?_
    refine pq_ 29 2 30 1073741823 HT_.out ?_
    refine done_ (done_of HT_.out (by kernel_rfl)) ?_
    try go_wp2
    go_ret
    exact ⟨eW_, sU_⟩
   rw [if_neg c6] at H
   have c6b0 := decide_eq_false c6
   clear c6
   obtain rfl := Option.some.inj H
   go_enter Tryd.func12, Tryd.ntmps12
   try go_wp2_with (first | ((with_reducible refine gate_dst (N := 1) rfl ?_); refine bx_ 1 24 #[.int .i64 a0_0, .int .i64 a0_1, .int .u64 a0_2] ?_; intro gb109 hg w15 hbox hb; refine nx4_ (below_step (bU_ HB.out) hb) (hbox) ((hs_ hg (below_size (bU_ HB.out)))) ((hs_ hg (below_size (bU_ HB.out)))) ?_; clear HB; intro HB BK109 GW109 GE109; clear hb hbox hg))
   refine nx2_ (blk_drew BK109.out) (below_drew1 HB.out) ?_
   clear BK109 HB
   intro BK109 HB
   refine start_ (n := 30) (S := fun w' => w'.cell? ⟨gb109, 0, none⟩ = some (.int .i64 a0_0) ∧ w'.cell? ⟨gb109, 1, none⟩ = some (.int .i64 a0_1) ∧ w'.cell? ⟨gb109, 2, none⟩ = some (.int .u64 a0_2)) (ds := []) (bv 30 0) (by kernel_rfl) rfl rfl ⟨bc0_ BK109.out, bc1_ BK109.out, bc2_ BK109.out⟩ (fun hHeld => ?_); refine with_tabW attestorref05_Valid.tab1 attestorref05_Valid.bits1 (fun HT_ HW_ => ?_)
   generalize w15.drew = w16 at BK109 HB hHeld ⊢
   refine pq_ 0 3 30 1 HT_.out ?_
   refine tq_ 1 4 30 3 HT_.out HW_.out hHeld ?_
   refine oq_ 2 5 30 7 HT_.out fun K hK => ?_
   refine gs_ Tryd.func52 #[.int .i64 a0_0] ?_
   with_reducible refine (attestorref01_Valid.calls a0_0 true _ A2.out).mono ?_
   rintro e w' ⟨rfl, ⟨nd, rfl⟩⟩
   refine ⟨_, rfl, ?_⟩
   refine hK.out _ _ ⟨bc0_ BK109.out, bc1_ BK109.out, bc2_ BK109.out⟩ (fun hHeld => ?_)
   clear hK K
   refine norm_ (a' := ?_) ?_ ?_
   rotate_left
   ·show Act.put _ (some 5) _ = _
    simp only [Act.put, s1_, s2_, s3_, i64_w, i32_w]
    rfl
   refine pq_ 3 6 30 15 HT_.out ?_
   refine pq_ 4 7 30 31 HT_.out ?_
   refine tq_ 5 8 30 63 HT_.out HW_.out hHeld ?_
   refine pq_ 6 9 30 127 HT_.out ?_
   refine pq_ 7 10 30 255 HT_.out ?_
   refine pq_ 8 11 30 511 HT_.out ?_
   refine pq_ 9 12 30 1023 HT_.out ?_
   refine pq_ 11 14 30 3071 HT_.out ?_
   refine tq_ 10 13 30 4095 HT_.out HW_.out hHeld ?_
   refine tq_ 12 15 30 8191 HT_.out HW_.out hHeld ?_
   refine oq_ 13 16 30 16383 HT_.out fun K hK => ?_
   refine gs_ Tryd.func53 #[.int .i64 a0_0] ?_
   with_reducible refine (attestorref04_Greatest.calls a0_0 t111 _ A5.out).mono ?_
   rintro e w17 ⟨rfl, hb⟩
   refine ⟨_, rfl, ?_⟩
   refine nx2_ (blk_below (kU_ BK109.out) hb) (below_step sU_ hb) ?_
   clear BK109 HB
   intro BK109 HB
   (try clear hb)
   (try clear hb2)
   (try clear hk)
   (try clear hi)
   refine hK.out _ _ ⟨bc0_ BK109.out, bc1_ BK109.out, bc2_ BK109.out⟩ (fun hHeld => ?_)
   clear hK K
   refine norm_ (a' := ?_) ?_ ?_
   rotate_left
   ·show Act.put _ (some 16) _ = _
    simp only [Act.put, s1_, s2_, s3_, i64_w, i32_w]
    rfl
   refine pq_ 14 17 30 32767 HT_.out ?_
   refine pq_ 15 18 30 65535 HT_.out ?_
   refine pq_ 16 19 30 131071 HT_.out ?_
   refine uq_ 17 20 30 262143 HT_.out ?_
   refine uq_ 18 21 30 524287 HT_.out ?_
   refine uq_ 19 22 30 1048575 HT_.out ?_
   refine pq_ 20 23 30 2097151 HT_.out ?_
   refine pq_ 21 24 30 4194303 HT_.out ?_
   refine uq_ 22 25 30 8388607 HT_.out ?_
   refine uq_ 23 26 30 16777215 HT_.out ?_
   refine uq_ 24 27 30 33554431 HT_.out ?_
   refine uq_ 25 28 30 67108863 HT_.out ?_
   refine uq_ 26 29 30 134217727 HT_.out ?_
   refine uq_ 27 30 30 268435455 HT_.out ?_
   refine pq_ 28 31 30 536870911 HT_.out ?_
   refine pq_ 29 2 30 1073741823 HT_.out ?_
   refine done_ (done_of HT_.out (by kernel_rfl)) ?_
   try go_wp2
   go_ret
   exact ⟨eW_, sU_⟩
  rw [if_neg c4] at H
  have c4b0 : decide (0 ≤ a0_1) = false := decide_eq_false c4
  clear c4
  obtain rfl := Option.some.inj H
  go_enter Tryd.func12, Tryd.ntmps12
  try go_wp2_with (first | ((with_reducible refine gate_dst (N := 1) rfl ?_); refine bx_ 1 24 #[.int .i64 a0_0, .int .i64 a0_1, .int .u64 a0_2] ?_; intro gb109 hg w18 hbox hb; refine nx4_ (below_step (bU_ HB.out) hb) (hbox) ((hs_ hg (below_size (bU_ HB.out)))) ((hs_ hg (below_size (bU_ HB.out)))) ?_; clear HB; intro HB BK109 GW109 GE109; clear hb hbox hg))
  refine nx2_ (blk_drew BK109.out) (below_drew1 HB.out) ?_
  clear BK109 HB
  intro BK109 HB
  refine start_ (n := 30) (S := fun w' => w'.cell? ⟨gb109, 0, none⟩ = some (.int .i64 a0_0) ∧ w'.cell? ⟨gb109, 1, none⟩ = some (.int .i64 a0_1) ∧ w'.cell? ⟨gb109, 2, none⟩ = some (.int .u64 a0_2)) (ds := []) (bv 30 0) (by kernel_rfl) rfl rfl ⟨bc0_ BK109.out, bc1_ BK109.out, bc2_ BK109.out⟩ (fun hHeld => ?_); refine with_tabW attestorref05_Valid.tab1 attestorref05_Valid.bits1 (fun HT_ HW_ => ?_)
  generalize w18.drew = w19 at BK109 HB hHeld ⊢
  refine pq_ 0 3 30 1 HT_.out ?_
  refine tq_ 1 4 30 3 HT_.out HW_.out hHeld ?_
  refine oq_ 2 5 30 7 HT_.out fun K hK => ?_
  refine gs_ Tryd.func52 #[.int .i64 a0_0] ?_
  with_reducible refine (attestorref01_Valid.calls a0_0 true _ A2.out).mono ?_
  rintro e w' ⟨rfl, ⟨nd, rfl⟩⟩
  refine ⟨_, rfl, ?_⟩
  refine hK.out _ _ ⟨bc0_ BK109.out, bc1_ BK109.out, bc2_ BK109.out⟩ (fun hHeld => ?_)
  clear hK K
  refine norm_ (a' := ?_) ?_ ?_
  rotate_left
  ·show Act.put _ (some 5) _ = _
   simp only [Act.put, s1_, s2_, s3_, i64_w, i32_w]
   rfl
  refine pq_ 3 6 30 15 HT_.out ?_
  refine pq_ 4 7 30 31 HT_.out ?_
  refine tq_ 5 8 30 63 HT_.out HW_.out hHeld ?_
  refine pq_ 6 9 30 127 HT_.out ?_
  refine pq_ 7 10 30 255 HT_.out ?_
  refine pq_ 8 11 30 511 HT_.out ?_
  refine uq_ 9 12 30 1023 HT_.out ?_
  refine uq_ 10 13 30 2047 HT_.out ?_
  refine uq_ 11 14 30 4095 HT_.out ?_
  refine uq_ 12 15 30 8191 HT_.out ?_
  refine uq_ 13 16 30 16383 HT_.out ?_
  refine uq_ 14 17 30 32767 HT_.out ?_
  refine pq_ 15 18 30 65535 HT_.out ?_
  refine pq_ 16 19 30 131071 HT_.out ?_
  refine uq_ 17 20 30 262143 HT_.out ?_
  refine uq_ 18 21 30 524287 HT_.out ?_
  refine uq_ 19 22 30 1048575 HT_.out ?_
  refine pq_ 20 23 30 2097151 HT_.out ?_
  refine pq_ 21 24 30 4194303 HT_.out ?_
  refine uq_ 22 25 30 8388607 HT_.out ?_
  refine uq_ 23 26 30 16777215 HT_.out ?_
  refine uq_ 24 27 30 33554431 HT_.out ?_
  refine uq_ 25 28 30 67108863 HT_.out ?_
  refine uq_ 26 29 30 134217727 HT_.out ?_
  refine uq_ 27 30 30 268435455 HT_.out ?_
  refine pq_ 28 31 30 536870911 HT_.out ?_
  refine pq_ 29 2 30 1073741823 HT_.out ?_
  refine done_ (done_of HT_.out (by kernel_rfl)) ?_
  try go_wp2
  go_ret
  exact ⟨eW_, sU_⟩
 replace c3 := Bool.eq_false_iff.mpr c3
 subst c3
 rw [if_neg (show ¬ (false = true) by decide)] at H
 obtain rfl := Option.some.inj H
 go_enter Tryd.func12, Tryd.ntmps12
 try go_wp2_with (first | ((with_reducible refine gate_dst (N := 1) rfl ?_); refine bx_ 1 24 #[.int .i64 a0_0, .int .i64 a0_1, .int .u64 a0_2] ?_; intro gb109 hg w20 hbox hb; refine nx4_ (below_step (bU_ HB.out) hb) (hbox) ((hs_ hg (below_size (bU_ HB.out)))) ((hs_ hg (below_size (bU_ HB.out)))) ?_; clear HB; intro HB BK109 GW109 GE109; clear hb hbox hg))
 refine nx2_ (blk_drew BK109.out) (below_drew1 HB.out) ?_
 clear BK109 HB
 intro BK109 HB
 refine start_ (n := 30) (S := fun w' => w'.cell? ⟨gb109, 0, none⟩ = some (.int .i64 a0_0) ∧ w'.cell? ⟨gb109, 1, none⟩ = some (.int .i64 a0_1) ∧ w'.cell? ⟨gb109, 2, none⟩ = some (.int .u64 a0_2)) (ds := []) (bv 30 0) (by kernel_rfl) rfl rfl ⟨bc0_ BK109.out, bc1_ BK109.out, bc2_ BK109.out⟩ (fun hHeld => ?_); refine with_tabW attestorref05_Valid.tab1 attestorref05_Valid.bits1 (fun HT_ HW_ => ?_)
 generalize w20.drew = w21 at BK109 HB hHeld ⊢
 refine pq_ 0 3 30 1 HT_.out ?_
 refine tq_ 1 4 30 3 HT_.out HW_.out hHeld ?_
 refine oq_ 2 5 30 7 HT_.out fun K hK => ?_
 refine gs_ Tryd.func52 #[.int .i64 a0_0] ?_
 with_reducible refine (attestorref01_Valid.calls a0_0 false _ A2.out).mono ?_
 rintro e w' ⟨rfl, ⟨nd, rfl⟩⟩
 refine ⟨_, rfl, ?_⟩
 refine hK.out _ _ ⟨bc0_ BK109.out, bc1_ BK109.out, bc2_ BK109.out⟩ (fun hHeld => ?_)
 clear hK K
 refine norm_ (a' := ?_) ?_ ?_
 rotate_left
 ·show Act.put _ (some 5) _ = _
  simp only [Act.put, s1_, s2_, s3_, i64_w, i32_w]
  rfl
 refine pq_ 3 6 30 15 HT_.out ?_
 refine uq_ 4 7 30 31 HT_.out ?_
 refine uq_ 5 8 30 63 HT_.out ?_
 refine uq_ 6 9 30 127 HT_.out ?_
 refine pq_ 7 10 30 255 HT_.out ?_
 refine pq_ 8 11 30 511 HT_.out ?_
 refine uq_ 9 12 30 1023 HT_.out ?_
 refine uq_ 10 13 30 2047 HT_.out ?_
 refine uq_ 11 14 30 4095 HT_.out ?_
 refine uq_ 12 15 30 8191 HT_.out ?_
 refine uq_ 13 16 30 16383 HT_.out ?_
 refine uq_ 14 17 30 32767 HT_.out ?_
 refine pq_ 15 18 30 65535 HT_.out ?_
 refine pq_ 16 19 30 131071 HT_.out ?_
 refine uq_ 17 20 30 262143 HT_.out ?_
 refine uq_ 18 21 30 524287 HT_.out ?_
 refine uq_ 19 22 30 1048575 HT_.out ?_
 refine pq_ 20 23 30 2097151 HT_.out ?_
 refine pq_ 21 24 30 4194303 HT_.out ?_
 refine uq_ 22 25 30 8388607 HT_.out ?_
 refine uq_ 23 26 30 16777215 HT_.out ?_
 refine uq_ 24 27 30 33554431 HT_.out ?_
 refine uq_ 25 28 30 67108863 HT_.out ?_
 refine uq_ 26 29 30 134217727 HT_.out ?_
 refine uq_ 27 30 30 268435455 HT_.out ?_
 refine pq_ 28 31 30 536870911 HT_.out ?_
 refine pq_ 29 2 30 1073741823 HT_.out ?_
 refine done_ (done_of HT_.out (by kernel_rfl)) ?_
 try go_wp2
 go_ret
 exact ⟨eW_, sU_⟩

def attestorref05_Size.f (a0_0 : Int) (a0_1 : Int) (a0_2 : Int) : Option (Int) := (attestorref05_Valid.f a0_0 a0_1 a0_2).bind fun t116 => (if t116 = true then (if 0 ≤ (IntKind.u64.wrap (a0_1)) then (some (shl .i64 1 (IntKind.u64.wrap (a0_1)))) else (none)) else (some 0))
set_option maxHeartbeats 8000000 in
set_option maxRecDepth 100000 in
theorem attestorref05_Size.calls (a0_0 : Int) (a0_1 : Int) (a0_2 : Int) (r : Int) (w : World) (h : attestorref05_Size.f a0_0 a0_1 a0_2 = some r) :
  Calls Tryd.prog 14 #[.agg #[.int .i64 a0_0, .int .i64 a0_1, .int .u64 a0_2]] w fun e w' => e = .returned (.int .i64 r) ∧ Below w.heap.size w w' := by
 have hu24 := Tryd.underlying24
 have HB := ak (Below.refl w.heap.size w)
 have H := h
 clear h
 unfold attestorref05_Size.f at H
 revert H
 refine bd_ fun t116 A2 H => ?_
 by_cases c3 : t116 = true
 ·subst c3
  rw [if_pos rfl] at H
  obtain ⟨ji4, hji4⟩ : ∃ j_ : Int, (IntKind.u64.wrap (a0_1)) = j_ := ⟨_, rfl⟩
  first | rw [hji4] at H | simp only [hji4] at H
  (try rw [hji4] at A2)
  obtain ⟨c5, H⟩ : (0 ≤ (ji4)) ∧ _ := it_ H
  have c5b0 := eq_true c5
  have c5b1 := decide_eq_true c5
  clear c5
  obtain ⟨ji6, hji6⟩ : ∃ j_ : Int, (shl .i64 1 (ji4)) = j_ := ⟨_, rfl⟩
  first | rw [hji6] at H | simp only [hji6] at H
  (try rw [hji6] at A2)
  have hji6_ : (IntKind.i64.wrap (1 * 2 ^ min (ji4).toNat 64)) = ji6 := hji6
  have hji6z : (ji4) ≤ 64 → (IntKind.i64.wrap (1 * 2 ^ (ji4).toNat)) = ji6 := shl_small hji6
  have hji6u : (IntKind.i64.wrap (2 ^ min (ji4).toNat 64)) = ji6 := by have h_ := hji6_; rw [Int.one_mul] at h_; exact h_
  have hji6v : (ji4) ≤ 64 → (IntKind.i64.wrap (2 ^ (ji4).toNat)) = ji6 := fun hle_ => by have h_ := hji6z hle_; rw [Int.one_mul] at h_; exact h_
  have hji6y : (wrap64 (1 * 2 ^ min (ji4).toNat 64)) = ji6 := (i64_w _).symm.trans hji6_
  have hji6x : (ji4) ≤ 64 → (wrap64 (1 * 2 ^ (ji4).toNat)) = ji6 := fun h_ => (i64_w _).symm.trans (hji6z h_)
  obtain rfl := Option.some.inj H
  go_enter Tryd.func14, Tryd.ntmps14
  go_wp2_with (first | ((with_reducible refine gate_dst (N := 1) rfl ?_); refine bx_ 1 24 #[.int .i64 a0_0, .int .i64 a0_1, .int .u64 a0_2] ?_; intro gb115 hg w7 hbox hb; refine nx4_ (below_step (bU_ HB.out) hb) (hbox) ((hs_ hg (below_size (bU_ HB.out)))) ((hs_ hg (below_size (bU_ HB.out)))) ?_; clear HB; intro HB BK115 GW115 GE115; clear hb hbox hg; have hcz8_0 := bc0_ BK115.out; have hcz8_1 := bc1_ BK115.out; have hcz8_2 := bc2_ BK115.out; have hfz8_0 := blk_frozen BK115.out 0; have hfz8_1 := blk_frozen BK115.out 1; have hfz8_2 := blk_frozen BK115.out 2) | ((with_reducible refine gate_callee (f := 12) rfl ?_); refine gl_ (some 4) Tryd.func12 #[.agg #[.int .i64 a0_0, .int .i64 a0_1, .int .u64 a0_2]] ?_; (with_reducible refine (attestorref05_Valid.calls a0_0 a0_1 a0_2 true _ A2.out).mono ?_); rintro e w9 ⟨rfl, hb⟩; refine ⟨_, rfl, ?_⟩; refine nx2_ (blk_below (kU_ BK115.out) hb) (below_step sU_ hb) ?_; clear BK115 HB; intro BK115 HB; clear hb; have hcz10_0 := bc0_ BK115.out; have hcz10_1 := bc1_ BK115.out; have hcz10_2 := bc2_ BK115.out; have hfz10_0 := blk_frozen BK115.out 0; have hfz10_1 := blk_frozen BK115.out 1; have hfz10_2 := blk_frozen BK115.out 2))
  go_ret
  exact ⟨by first | rfl | (simp [errW_none, errW_some] <;> rfl) | (simp only [← hji4, ← hji6]; first | rfl | (simp [errW_none, errW_some] <;> rfl)) | (simp [*, errW_none, errW_some] <;> rfl), sU_⟩
 replace c3 := Bool.eq_false_iff.mpr c3
 subst c3
 rw [if_neg (show ¬ (false = true) by decide)] at H
 obtain rfl := Option.some.inj H
 go_enter Tryd.func14, Tryd.ntmps14
 go_wp2_with (first | ((with_reducible refine gate_dst (N := 1) rfl ?_); refine bx_ 1 24 #[.int .i64 a0_0, .int .i64 a0_1, .int .u64 a0_2] ?_; intro gb115 hg w11 hbox hb; refine nx4_ (below_step (bU_ HB.out) hb) (hbox) ((hs_ hg (below_size (bU_ HB.out)))) ((hs_ hg (below_size (bU_ HB.out)))) ?_; clear HB; intro HB BK115 GW115 GE115; clear hb hbox hg; have hcz12_0 := bc0_ BK115.out; have hcz12_1 := bc1_ BK115.out; have hcz12_2 := bc2_ BK115.out; have hfz12_0 := blk_frozen BK115.out 0; have hfz12_1 := blk_frozen BK115.out 1; have hfz12_2 := blk_frozen BK115.out 2) | ((with_reducible refine gate_callee (f := 12) rfl ?_); refine gl_ (some 4) Tryd.func12 #[.agg #[.int .i64 a0_0, .int .i64 a0_1, .int .u64 a0_2]] ?_; (with_reducible refine (attestorref05_Valid.calls a0_0 a0_1 a0_2 false _ A2.out).mono ?_); rintro e w13 ⟨rfl, hb⟩; refine ⟨_, rfl, ?_⟩; refine nx2_ (blk_below (kU_ BK115.out) hb) (below_step sU_ hb) ?_; clear BK115 HB; intro BK115 HB; clear hb))
 go_ret
 exact ⟨eW_, sU_⟩

def attestorref05_Point.f (k : Nat) (a0_0 : Int) (a0_1 : Int) (a0_2 : Int) (a1 : Int) : Option (Int) := if a1 < 0 then (some 0) else ((attestorref05_Size.f a0_0 a0_1 a0_2).bind fun t142 => (if a1 ≥ t142 then (some 0) else ((attestorref04_Point.f k a0_0 a0_1 a0_2 a1).bind fun t143 => (some t143))))
set_option maxHeartbeats 8000000 in
set_option maxRecDepth 100000 in
theorem attestorref05_Point.calls (k : Nat) (a0_0 : Int) (a0_1 : Int) (a0_2 : Int) (a1 : Int) (r : Int) (w : World) (h : attestorref05_Point.f k a0_0 a0_1 a0_2 a1 = some r) :
  Calls Tryd.prog 16 #[.agg #[.int .i64 a0_0, .int .i64 a0_1, .int .u64 a0_2], .int .i64 a1] w fun e w' => e = .returned (.int .u64 r) ∧ Below w.heap.size w w' := by
 have hu24 := Tryd.underlying24
 have HB := ak (Below.refl w.heap.size w)
 have H := h
 clear h
 unfold attestorref05_Point.f at H
 by_cases c3 : a1 < 0
 ·rw [if_pos c3] at H
  have c3b0 := decide_eq_true c3
  clear c3
  obtain rfl := Option.some.inj H
  go_enter Tryd.func16, Tryd.ntmps16
  go_wp2_with (first | ((with_reducible refine gate_dst (N := 2) rfl ?_); refine bx_ 2 24 #[.int .i64 a0_0, .int .i64 a0_1, .int .u64 a0_2] ?_; intro gb141 hg w4 hbox hb; refine nx4_ (below_step (bU_ HB.out) hb) (hbox) ((hs_ hg (below_size (bU_ HB.out)))) ((hs_ hg (below_size (bU_ HB.out)))) ?_; clear HB; intro HB BK141 GW141 GE141; clear hb hbox hg))
  go_ret
  exact ⟨eW_, sU_⟩
 rw [if_neg c3] at H
 have c3b0 := decide_eq_false c3
 clear c3
 revert H
 refine bd_ fun t142 A5 H => ?_
 by_cases c6 : a1 ≥ t142
 ·rw [if_pos c6] at H
  have c6b0 : decide (t142 ≤ a1) = true := decide_eq_true c6
  clear c6
  obtain rfl := Option.some.inj H
  go_enter Tryd.func16, Tryd.ntmps16
  go_wp2_with (first | ((with_reducible refine gate_dst (N := 2) rfl ?_); refine bx_ 2 24 #[.int .i64 a0_0, .int .i64 a0_1, .int .u64 a0_2] ?_; intro gb141 hg w7 hbox hb; refine nx4_ (below_step (bU_ HB.out) hb) (hbox) ((hs_ hg (below_size (bU_ HB.out)))) ((hs_ hg (below_size (bU_ HB.out)))) ?_; clear HB; intro HB BK141 GW141 GE141; clear hb hbox hg; have hcz8_0 := bc0_ BK141.out; have hcz8_1 := bc1_ BK141.out; have hcz8_2 := bc2_ BK141.out; have hfz8_0 := blk_frozen BK141.out 0; have hfz8_1 := blk_frozen BK141.out 1; have hfz8_2 := blk_frozen BK141.out 2) | (go_at_call 14; (with_reducible refine (attestorref05_Size.calls a0_0 a0_1 a0_2 t142 _ A5.out).mono ?_); rintro e w9 ⟨rfl, hb⟩; refine nx2_ (blk_below (kU_ BK141.out) hb) (below_step sU_ hb) ?_; clear BK141 HB; intro BK141 HB; clear hb))
  go_ret
  exact ⟨eW_, sU_⟩
 rw [if_neg c6] at H
 have c6b0 : decide (t142 ≤ a1) = false := decide_eq_false c6
 clear c6
 revert H
 refine bd_ fun t143 A10 H => ?_
 obtain rfl := Option.some.inj H
 go_enter Tryd.func16, Tryd.ntmps16
 go_wp2_with (first | ((with_reducible refine gate_dst (N := 2) rfl ?_); refine bx_ 2 24 #[.int .i64 a0_0, .int .i64 a0_1, .int .u64 a0_2] ?_; intro gb141 hg w11 hbox hb; refine nx4_ (below_step (bU_ HB.out) hb) (hbox) ((hs_ hg (below_size (bU_ HB.out)))) ((hs_ hg (below_size (bU_ HB.out)))) ?_; clear HB; intro HB BK141 GW141 GE141; clear hb hbox hg; have hcz12_0 := bc0_ BK141.out; have hcz12_1 := bc1_ BK141.out; have hcz12_2 := bc2_ BK141.out; have hfz12_0 := blk_frozen BK141.out 0; have hfz12_1 := blk_frozen BK141.out 1; have hfz12_2 := blk_frozen BK141.out 2) | (go_at_call 14; (with_reducible refine (attestorref05_Size.calls a0_0 a0_1 a0_2 t142 _ A5.out).mono ?_); rintro e w13 ⟨rfl, hb⟩; refine nx2_ (blk_below (kU_ BK141.out) hb) (below_step sU_ hb) ?_; clear BK141 HB; intro BK141 HB; clear hb; have hcz14_0 := bc0_ BK141.out; have hcz14_1 := bc1_ BK141.out; have hcz14_2 := bc2_ BK141.out; have hfz14_0 := blk_frozen BK141.out 0; have hfz14_1 := blk_frozen BK141.out 1; have hfz14_2 := blk_frozen BK141.out 2) | ((with_reducible refine gate_callee (f := 57) rfl ?_); refine gl_ (some 20) Tryd.func57 #[.int .i64 a0_0, .int .i64 a0_1, .int .u64 a0_2, .int .i64 a1] ?_; (with_reducible refine (attestorref04_Point.calls k a0_0 a0_1 a0_2 a1 t143 _ A10.out).mono ?_); rintro e w' ⟨rfl, ⟨nd, rfl⟩⟩; refine ⟨_, rfl, ?_⟩))
 go_ret
 exact ⟨eW_, sU_⟩

def attestorlaw05_small.f (a0_0 : Int) (a0_1 : Int) (a0_2 : Int) (a1 : Int) : Option (Int × Int × Int) := (attestorref05_Valid.f a0_0 a0_1 a0_2).bind fun t154 => (if t154 = true then (if a0_1 > a1 then (if (wrap64 (a1 + 1)) = 0 then (none) else (some (a0_0, Int.tmod a0_1 (wrap64 (a1 + 1)), a0_2))) else (some (a0_0, a0_1, a0_2))) else (some (a0_0, a0_1, a0_2)))
set_option maxHeartbeats 8000000 in
set_option maxRecDepth 100000 in
theorem attestorlaw05_small.calls (a0_0 : Int) (a0_1 : Int) (a0_2 : Int) (a1 : Int) (r1 : Int) (r2 : Int) (r3 : Int) (w : World) (h : attestorlaw05_small.f a0_0 a0_1 a0_2 a1 = some (r1, r2, r3)) :
  Calls Tryd.prog 19 #[.agg #[.int .i64 a0_0, .int .i64 a0_1, .int .u64 a0_2], .int .i64 a1] w fun e w' => e = .returned (.agg #[.int .i64 r1, .int .i64 r2, .int .u64 r3]) ∧ Below w.heap.size w w' := by
 have hu24 := Tryd.underlying24
 have HB := ak (Below.refl w.heap.size w)
 have H := h
 clear h
 unfold attestorlaw05_small.f at H
 revert H
 refine bd_ fun t154 A3 H => ?_
 by_cases c4 : t154 = true
 ·subst c4
  rw [if_pos rfl] at H
  by_cases c5 : a0_1 > a1
  ·rw [if_pos c5] at H
   have c5b0 : decide (a1 < a0_1) = true := decide_eq_true c5
   clear c5
   by_cases c6 : (wrap64 (a1 + 1)) = 0
   ·rw [if_pos c6] at H
    exact absurd H (by simp)
   rw [if_neg c6] at H
   have c6b0 := beq_eq_false_iff_ne.mpr c6
   have c6b1 := bne_iff_ne.mpr c6
   simp only [Option.some.injEq, Prod.mk.injEq] at H
   obtain ⟨rfl, rfl, rfl⟩ := H
   go_enter Tryd.func19, Tryd.ntmps19
   go_wp2_with (first | ((with_reducible refine gate_dst (N := 2) rfl ?_); refine bx_ 2 24 #[.int .i64 a0_0, .int .i64 a0_1, .int .u64 a0_2] ?_; intro gb152 hg w7 hbox hb; refine nx4_ (below_step (bU_ HB.out) hb) (hbox) ((hs_ hg (below_size (bU_ HB.out)))) ((hs_ hg (below_size (bU_ HB.out)))) ?_; clear HB; intro HB BK152 GW152 GE152; clear hb hbox hg) | ((with_reducible refine gate_dst (N := 4) rfl ?_); refine bx_ 4 24 #[.int .i64 0, .int .i64 0, .int .u64 0] ?_; intro gb153 hg w8 hbox hb; refine nx7_ (blk_below (kU_ BK152.out) hb) (below_step sU_ hb) (hbox) ((hs_ hg (below_size sU_) : w.heap.size ≤ gb153)) ((hs_ hg (below_size sU_) : w.heap.size ≤ gb153)) ((hl_ hg (kU_ BK152.out))) ((hm_ hg (kU_ BK152.out))) ?_; clear BK152 HB; intro BK152 HB BK153 GW153 GE153 NB152_153 NB153_152; clear hb hbox hg; have hnb9 := NB152_153.out; have hnc9 := NB153_152.out; have hcz10_0 := bc0_ BK152.out; have hcz10_1 := bc1_ BK152.out; have hcz10_2 := bc2_ BK152.out; have hfz10_0 := blk_frozen BK152.out 0; have hfz10_1 := blk_frozen BK152.out 1; have hfz10_2 := blk_frozen BK152.out 2) | ((with_reducible refine gate_callee (f := 12) rfl ?_); refine gl_ (some 6) Tryd.func12 #[.agg #[.int .i64 a0_0, .int .i64 a0_1, .int .u64 a0_2]] ?_; (with_reducible refine (attestorref05_Valid.calls a0_0 a0_1 a0_2 true _ A3.out).mono ?_); rintro e w11 ⟨rfl, hb⟩; refine ⟨_, rfl, ?_⟩; refine nx3_ (blk_below (kU_ BK152.out) hb) (blk_below (kU_ BK153.out) hb) (below_step sU_ hb) ?_; clear BK152 BK153 HB; intro BK152 BK153 HB; clear hb; have hcz12_0 := bc0_ BK152.out; have hcz12_1 := bc1_ BK152.out; have hcz12_2 := bc2_ BK152.out; have hfz12_0 := blk_frozen BK152.out 0; have hfz12_1 := blk_frozen BK152.out 1; have hfz12_2 := blk_frozen BK152.out 2; have hcz13_0 := bc0_ BK153.out; have hcz13_1 := bc1_ BK153.out; have hcz13_2 := bc2_ BK153.out; have hfz13_0 := blk_frozen BK153.out 0; have hfz13_1 := blk_frozen BK153.out 1; have hfz13_2 := blk_frozen BK153.out 2))
   refine bodyPost_ret (results_cell_row rfl _ _ gb153 24 #[.int .i64 a0_0, .int .i64 (Int.tmod a0_1 (wrap64 (a1 + 1))), .int .u64 a0_2] (0, 0) _ rfl (by (with_reducible repeat (first | refine blk_drewN ?_ _ | refine blk_drew ?_ | refine blk_alloc ?_ _)); refine blk_put (cs := #[.int .i64 a0_0, .int .i64 (Int.tmod a0_1 (wrap64 (a1 + 1))), .int .u64 0]) ?_ 2 _ rfl; (with_reducible repeat (first | refine blk_drewN ?_ _ | refine blk_drew ?_ | refine blk_alloc ?_ _)); refine blk_put (cs := #[.int .i64 a0_0, .int .i64 0, .int .u64 0]) ?_ 1 _ rfl; (with_reducible repeat (first | refine blk_drewN ?_ _ | refine blk_drew ?_ | refine blk_alloc ?_ _)); refine blk_put (cs := #[.int .i64 0, .int .i64 0, .int .u64 0]) ?_ 0 _ rfl; (with_reducible repeat (first | refine blk_drewN ?_ _ | refine blk_drew ?_ | refine blk_alloc ?_ _)); refine blk_far ?_ NB153_152.out _; (with_reducible repeat (first | refine blk_drewN ?_ _ | refine blk_drew ?_ | refine blk_alloc ?_ _)); exact BK153.out) Tryd.underlying24 rfl (by kernel_rfl)) rfl ?_
   exact ⟨eW_, sU_⟩
  rw [if_neg c5] at H
  have c5b0 : decide (a1 < a0_1) = false := decide_eq_false c5
  clear c5
  simp only [Option.some.injEq, Prod.mk.injEq] at H
  obtain ⟨rfl, rfl, rfl⟩ := H
  go_enter Tryd.func19, Tryd.ntmps19
  go_wp2_with (first | ((with_reducible refine gate_dst (N := 2) rfl ?_); refine bx_ 2 24 #[.int .i64 a0_0, .int .i64 a0_1, .int .u64 a0_2] ?_; intro gb152 hg w14 hbox hb; refine nx4_ (below_step (bU_ HB.out) hb) (hbox) ((hs_ hg (below_size (bU_ HB.out)))) ((hs_ hg (below_size (bU_ HB.out)))) ?_; clear HB; intro HB BK152 GW152 GE152; clear hb hbox hg) | ((with_reducible refine gate_dst (N := 4) rfl ?_); refine bx_ 4 24 #[.int .i64 0, .int .i64 0, .int .u64 0] ?_; intro gb153 hg w15 hbox hb; refine nx7_ (blk_below (kU_ BK152.out) hb) (below_step sU_ hb) (hbox) ((hs_ hg (below_size sU_) : w.heap.size ≤ gb153)) ((hs_ hg (below_size sU_) : w.heap.size ≤ gb153)) ((hl_ hg (kU_ BK152.out))) ((hm_ hg (kU_ BK152.out))) ?_; clear BK152 HB; intro BK152 HB BK153 GW153 GE153 NB152_153 NB153_152; clear hb hbox hg; have hnb16 := NB152_153.out; have hnc16 := NB153_152.out; have hcz17_0 := bc0_ BK152.out; have hcz17_1 := bc1_ BK152.out; have hcz17_2 := bc2_ BK152.out; have hfz17_0 := blk_frozen BK152.out 0; have hfz17_1 := blk_frozen BK152.out 1; have hfz17_2 := blk_frozen BK152.out 2) | ((with_reducible refine gate_callee (f := 12) rfl ?_); refine gl_ (some 6) Tryd.func12 #[.agg #[.int .i64 a0_0, .int .i64 a0_1, .int .u64 a0_2]] ?_; (with_reducible refine (attestorref05_Valid.calls a0_0 a0_1 a0_2 true _ A3.out).mono ?_); rintro e w18 ⟨rfl, hb⟩; refine ⟨_, rfl, ?_⟩; refine nx3_ (blk_below (kU_ BK152.out) hb) (blk_below (kU_ BK153.out) hb) (below_step sU_ hb) ?_; clear BK152 BK153 HB; intro BK152 BK153 HB; clear hb; have hcz19_0 := bc0_ BK152.out; have hcz19_1 := bc1_ BK152.out; have hcz19_2 := bc2_ BK152.out; have hfz19_0 := blk_frozen BK152.out 0; have hfz19_1 := blk_frozen BK152.out 1; have hfz19_2 := blk_frozen BK152.out 2; have hcz20_0 := bc0_ BK153.out; have hcz20_1 := bc1_ BK153.out; have hcz20_2 := bc2_ BK153.out; have hfz20_0 := blk_frozen BK153.out 0; have hfz20_1 := blk_frozen BK153.out 1; have hfz20_2 := blk_frozen BK153.out 2))
  refine bodyPost_ret (results_cell_row rfl _ _ gb153 24 #[.int .i64 a0_0, .int .i64 a0_1, .int .u64 a0_2] (0, 0) _ rfl kp_ Tryd.underlying24 rfl (by kernel_rfl)) rfl ?_
  exact ⟨eW_, sU_⟩
 replace c4 := Bool.eq_false_iff.mpr c4
 subst c4
 rw [if_neg (show ¬ (false = true) by decide)] at H
 simp only [Option.some.injEq, Prod.mk.injEq] at H
 obtain ⟨rfl, rfl, rfl⟩ := H
 go_enter Tryd.func19, Tryd.ntmps19
 go_wp2_with (first | ((with_reducible refine gate_dst (N := 2) rfl ?_); refine bx_ 2 24 #[.int .i64 a0_0, .int .i64 a0_1, .int .u64 a0_2] ?_; intro gb152 hg w21 hbox hb; refine nx4_ (below_step (bU_ HB.out) hb) (hbox) ((hs_ hg (below_size (bU_ HB.out)))) ((hs_ hg (below_size (bU_ HB.out)))) ?_; clear HB; intro HB BK152 GW152 GE152; clear hb hbox hg) | ((with_reducible refine gate_dst (N := 4) rfl ?_); refine bx_ 4 24 #[.int .i64 0, .int .i64 0, .int .u64 0] ?_; intro gb153 hg w22 hbox hb; refine nx7_ (blk_below (kU_ BK152.out) hb) (below_step sU_ hb) (hbox) ((hs_ hg (below_size sU_) : w.heap.size ≤ gb153)) ((hs_ hg (below_size sU_) : w.heap.size ≤ gb153)) ((hl_ hg (kU_ BK152.out))) ((hm_ hg (kU_ BK152.out))) ?_; clear BK152 HB; intro BK152 HB BK153 GW153 GE153 NB152_153 NB153_152; clear hb hbox hg; have hnb23 := NB152_153.out; have hnc23 := NB153_152.out; have hcz24_0 := bc0_ BK152.out; have hcz24_1 := bc1_ BK152.out; have hcz24_2 := bc2_ BK152.out; have hfz24_0 := blk_frozen BK152.out 0; have hfz24_1 := blk_frozen BK152.out 1; have hfz24_2 := blk_frozen BK152.out 2) | ((with_reducible refine gate_callee (f := 12) rfl ?_); refine gl_ (some 6) Tryd.func12 #[.agg #[.int .i64 a0_0, .int .i64 a0_1, .int .u64 a0_2]] ?_; (with_reducible refine (attestorref05_Valid.calls a0_0 a0_1 a0_2 false _ A3.out).mono ?_); rintro e w25 ⟨rfl, hb⟩; refine ⟨_, rfl, ?_⟩; refine nx3_ (blk_below (kU_ BK152.out) hb) (blk_below (kU_ BK153.out) hb) (below_step sU_ hb) ?_; clear BK152 BK153 HB; intro BK152 BK153 HB; clear hb; have hcz26_0 := bc0_ BK152.out; have hcz26_1 := bc1_ BK152.out; have hcz26_2 := bc2_ BK152.out; have hfz26_0 := blk_frozen BK152.out 0; have hfz26_1 := blk_frozen BK152.out 1; have hfz26_2 := blk_frozen BK152.out 2; have hcz27_0 := bc0_ BK153.out; have hcz27_1 := bc1_ BK153.out; have hcz27_2 := bc2_ BK153.out; have hfz27_0 := blk_frozen BK153.out 0; have hfz27_1 := blk_frozen BK153.out 1; have hfz27_2 := blk_frozen BK153.out 2))
 refine bodyPost_ret (results_cell_row rfl _ _ gb153 24 #[.int .i64 a0_0, .int .i64 a0_1, .int .u64 a0_2] (0, 0) _ rfl kp_ Tryd.underlying24 rfl (by kernel_rfl)) rfl ?_
 exact ⟨eW_, sU_⟩

end Go.Proofs.YtedapdagagkajaaDoor.Q

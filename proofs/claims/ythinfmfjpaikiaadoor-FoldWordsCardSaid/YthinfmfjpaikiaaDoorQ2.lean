import Derived.Test.YthinfmfjpaikiaaDoorQ0
namespace Go.Proofs.YthinfmfjpaikiaaDoor.Q
open Go.RowKit Go.Proofs.YthinfmfjpaikiaaDoorW.PrintWords Go.Proofs.YthinfmfjpaikiaaDoorW.PrintLast Go.Proofs.YthinfmfjpaikiaaDoorW.PrintMore
open Kd (R_below R_lower R_slice R_make)
attribute [local go_sem] max2_int min2_int max_two min_two max_three min_three max_four min_four   -- for this text's walks alone
set_option linter.unusedVariables false
set_option linter.unusedSimpArgs false

def field_Valid.f (a0 : Int) : Option (Bool) := if a0 ≥ 0 then (some (decide (a0 < 4))) else (some false)
set_option maxHeartbeats 8000000 in
set_option maxRecDepth 100000 in
theorem field_Valid.calls (a0 : Int) (r : Bool) (w : World) (h : field_Valid.f a0 = some r) :
  Calls Tryd.prog 54 #[.int .i64 a0] w fun e w' => e = .returned (.bool r) ∧ Drawn0 w w' := by
 have H : (if a0 ≥ 0 then (some (decide (a0 < 4))) else (some false)) = some r := h
 clear h
 by_cases c2 : a0 ≥ 0
 ·rw [if_pos c2] at H
  have c2b0 : decide (0 ≤ a0) = true := decide_eq_true c2
  clear c2
  obtain rfl := Option.some.inj H
  go_enter Tryd.func54, Tryd.ntmps54
  go_wp2
  go_ret
  exact ⟨by first | rfl | (simp; done) | (simp [*]; done), by repeat (first | exact Drawn0.refl _ | apply Drawn0.step)⟩
 rw [if_neg c2] at H
 have c2b0 : decide (0 ≤ a0) = false := decide_eq_false c2
 clear c2
 obtain rfl := Option.some.inj H
 go_enter Tryd.func54, Tryd.ntmps54
 go_wp2
 go_ret
 exact ⟨by first | rfl | (simp; done) | (simp [*]; done), by repeat (first | exact Drawn0.refl _ | apply Drawn0.step)⟩


def field_P.f (a0 : Int) : Option (Int) := some (pOf a0)
theorem field_P.calls (a0 : Int) (r : Int) (w : World) (hG : Fld w) (h : field_P.f a0 = some r) :
  Calls Tryd.prog 52 #[.int .i64 a0] w fun e w' => e = .returned (.int .u64 r) ∧ Below w.heap.size w w' := by
 obtain rfl := Option.some.inj h
 clear h
 have hfl := fld0
 go_enter Tryd.func52, Tryd.ntmps52
 go_wp2_with (go_at_call 77; (with_reducible refine (of_any a0 _ hG).mono ?_); rintro e w' ⟨va, vn, vc, rfl, hb⟩)
 go_ret
 exact ⟨rfl, hb⟩

def field_Twos.f (a0 : Int) : Option (Int) := some (tOf a0)
theorem field_Twos.calls (a0 : Int) (r : Int) (w : World) (hG : Fld w) (h : field_Twos.f a0 = some r) :
  Calls Tryd.prog 79 #[.int .i64 a0] w fun e w' => e = .returned (.int .i64 r) ∧ Below w.heap.size w w' := by
 obtain rfl := Option.some.inj h
 clear h
 have hfl := fld2
 go_enter Tryd.func79, Tryd.ntmps79
 go_wp2_with (go_at_call 77; (with_reducible refine (of_any a0 _ hG).mono ?_); rintro e w' ⟨va, vn, vc, rfl, hb⟩)
 go_ret
 exact ⟨rfl, hb⟩

def code_greatest.f (a0 : Int) : Option (Int) := (field_Twos.f a0).bind fun t103 => (some (mn t103 18))
set_option maxHeartbeats 8000000 in
set_option maxRecDepth 100000 in
theorem code_greatest.calls (a0 : Int) (r : Int) (w : World) (hG : Fld w) (h : code_greatest.f a0 = some r) :
  Calls Tryd.prog 63 #[.int .i64 a0] w fun e w' => e = .returned (.int .i64 r) ∧ Below w.heap.size w w' := by
 have HG := ak hG
 clear hG
 have HB := ak (Below.refl w.heap.size w)
 have H : ((field_Twos.f a0).bind fun t103 => (some (mn t103 18))) = some r := h
 clear h
 revert H
 refine bd_ fun t103 A2 H => ?_
 obtain ⟨ji3, hji3⟩ : ∃ j_ : Int, (mn t103 18) = j_ := ⟨_, rfl⟩
 first | rw [hji3] at H | simp only [hji3] at H
 (try rw [hji3] at A2)
 (try (have hji3h : ji3 ≤ 18 := by (rw [← hji3]; unfold mn; (repeat' split) <;> omega)))
 (try (have hji3g : ji3 ≤ 64 := by omega))
 have hji3_ : (if 18 < t103 then 18 else t103) = ji3 := hji3
 obtain rfl := Option.some.inj H
 go_enter Tryd.func63, Tryd.ntmps63
 go_wp2_with (first | ((with_reducible refine gate_callee (f := 79) rfl ?_); refine gl_ (some 4) Tryd.func79 #[.int .i64 a0] ?_; (with_reducible refine (field_Twos.calls a0 t103 _ ?side1 A2.out).mono ?_); (case side1 => exact fU_ HG.out HB.out); rintro e w4 ⟨rfl, hb⟩; refine ⟨_, rfl, ?_⟩; refine nx1_ (below_step (bU_ HB.out) hb) ?_; clear HB; intro HB; clear hb))
 go_ret
 exact ⟨by first | rfl | (simp [errW_none, errW_some] <;> rfl) | (simp only [← hji3]; first | rfl | (simp [errW_none, errW_some] <;> rfl)) | (simp [*, errW_none, errW_some] <;> rfl), bU_ HB.out⟩

def code_Valid.f (a0_0 : Int) (a0_1 : Int) (a0_2 : Int) : Option (Bool) := (field_Valid.f a0_0).bind fun t105 => (if t105 = true then (if a0_1 ≥ 0 then ((code_greatest.f a0_0).bind fun t106 => (if a0_1 ≤ t106 then (if a0_2 > 0 then ((field_P.f a0_0).bind fun t107 => (some (decide (a0_2 < t107)))) else (some false)) else (some false))) else (some false)) else (some false))
def code_Valid.T1 : Bool × List (List Nat × List Nat) := (true, [([], []), ([0], [0]), ([1], [1]), ([2, 2], [2]), ([3], [3]), ([4, 3], [3, 4]), ([5, 3], [3, 5]), ([3, 6], [3, 6]), ([7, 3], [7]), ([8], [8]), ([9, 8], [8, 9]), ([8], [8]), ([11, 8], [8, 11]), ([12, 8, 8], [8, 12]), ([10, 13, 8], [8, 10, 13]), ([8, 14], [8, 14]), ([15, 13], [15]), ([16], [16]), ([17, 16], [16, 17]), ([18, 16], [16, 18]), ([16, 19], [16, 19]), ([20, 16], [20]), ([21], [21]), ([22, 21], [21, 22]), ([21], [21]), ([24, 21], [21, 24]), ([25, 21, 21], [21, 25]), ([23, 26, 21], [21, 23, 26]), ([21, 27], [21, 27]), ([28, 26, 0, 1, 2, 3, 4, 5, 6, 7, 8, 9, 10, 11, 12, 13, 14, 15, 16, 17, 18, 19, 20, 21, 22, 23, 24, 25, 26, 27, 28], [28])])
def code_Valid.B1 : List Nat := [0, 1, 3, 7, 15, 31, 63, 127, 255, 511, 1023, 511, 2559, 6655, 16383, 32767, 65535, 131071, 262143, 524287, 1048575, 2097151, 4194303, 8388607, 4194303, 20971519, 54525951, 134217727, 268435455, 536870911]
theorem code_Valid.tab1 : rtab .any (opsOf Tryd.f38 1) = code_Valid.T1 := by kernel_rfl
theorem code_Valid.bits1 : waitsOk code_Valid.T1.2 code_Valid.B1 = true := by kernel_rfl
set_option maxHeartbeats 8000000 in
set_option maxRecDepth 100000 in
theorem code_Valid.calls (a0_0 : Int) (a0_1 : Int) (a0_2 : Int) (r : Bool) (w : World) (hG : Fld w) (h : code_Valid.f a0_0 a0_1 a0_2 = some r) :
  Calls Tryd.prog 38 #[.agg #[.int .i64 a0_0, .int .i64 a0_1, .int .u64 a0_2]] w fun e w' => e = .returned (.bool r) ∧ Below w.heap.size w w' := by
 have hu24 := Tryd.underlying24
 have HG := ak hG
 clear hG
 have HB := ak (Below.refl w.heap.size w)
 have H := h
 clear h
 unfold code_Valid.f at H
 revert H
 refine bd_ fun t105 A2 H => ?_
 by_cases c3 : t105 = true
 ·subst c3
  rw [if_pos rfl] at H
  by_cases c4 : a0_1 ≥ 0
  ·rw [if_pos c4] at H
   have c4b0 : decide (0 ≤ a0_1) = true := decide_eq_true c4
   clear c4
   revert H
   refine bd_ fun t106 A5 H => ?_
   by_cases c6 : a0_1 ≤ t106
   ·rw [if_pos c6] at H
    have c6b0 := decide_eq_true c6
    clear c6
    by_cases c7 : a0_2 > 0
    ·rw [if_pos c7] at H
     have c7b0 : decide (0 < a0_2) = true := decide_eq_true c7
     clear c7
     revert H
     refine bd_ fun t107 A8 H => ?_
     obtain rfl := Option.some.inj H
     go_enter Tryd.func38, Tryd.ntmps38
     try go_wp2_with (first | ((with_reducible refine gate_dst (N := 1) rfl ?_); refine bx_ 1 24 #[.int .i64 a0_0, .int .i64 a0_1, .int .u64 a0_2] ?_; intro gb104 hg w9 hbox hb; refine nx4_ (below_step (bU_ HB.out) hb) (hbox) ((hs_ hg (below_size (bU_ HB.out)))) ((hs_ hg (below_size (bU_ HB.out)))) ?_; clear HB; intro HB BK104 GW104 GE104; clear hb hbox hg))
     refine nx2_ (blk_drew BK104.out) (below_drew1 HB.out) ?_
     clear BK104 HB
     intro BK104 HB
     refine start_ (n := 30) (S := fun w' => w'.cell? ⟨gb104, 0, none⟩ = some (.int .i64 a0_0) ∧ w'.cell? ⟨gb104, 1, none⟩ = some (.int .i64 a0_1) ∧ w'.cell? ⟨gb104, 2, none⟩ = some (.int .u64 a0_2)) (ds := []) (bv 30 0) (by kernel_rfl) rfl rfl ⟨bc0_ BK104.out, bc1_ BK104.out, bc2_ BK104.out⟩ (fun hHeld => ?_); refine with_tabW code_Valid.tab1 code_Valid.bits1 (fun HT_ HW_ => ?_)
     generalize w9.drew = w10 at BK104 HB hHeld ⊢
     refine pq_ 0 3 30 1 HT_.out ?_
     refine tq_ 1 4 30 3 HT_.out HW_.out hHeld ?_
     refine oq_ 2 5 30 7 HT_.out fun K hK => ?_
     refine gs_ Tryd.func54 #[.int .i64 a0_0] ?_
     with_reducible refine (field_Valid.calls a0_0 true _ A2.out).mono ?_
     rintro e w' ⟨rfl, ⟨nd, rfl⟩⟩
     refine ⟨_, rfl, ?_⟩
     refine hK.out _ _ ⟨bc0_ BK104.out, bc1_ BK104.out, bc2_ BK104.out⟩ (fun hHeld => ?_)
     clear hK K
     refine norm_ (a' := ?_) ?_ ?_
     rotate_left
     ·show Act.put _ (some 5) _ = _
      simp only [Act.put, s1_, s2_, s3_, i64_w, i32_w]
      rfl
     refine pq_ 3 6 30 15 HT_.out ?_
     refine pq_ 4 7 30 31 HT_.out ?_
     refine tq_ 5 8 30 63 HT_.out HW_.out hHeld ?_
     refine pq_ 6 9 30 127 HT_.out ?_
     refine pq_ 7 10 30 255 HT_.out ?_
     refine pq_ 8 11 30 511 HT_.out ?_
     refine pq_ 9 12 30 1023 HT_.out ?_
     refine pq_ 11 14 30 3071 HT_.out ?_
     refine tq_ 10 13 30 4095 HT_.out HW_.out hHeld ?_
     refine tq_ 12 15 30 8191 HT_.out HW_.out hHeld ?_
     refine oq_ 13 16 30 16383 HT_.out fun K hK => ?_
     refine gs_ Tryd.func63 #[.int .i64 a0_0] ?_
     with_reducible refine (code_greatest.calls a0_0 t106 _ ?side1 A5.out).mono ?_
     (case side1 => repeat (first | with_reducible exact HG.out | with_reducible exact (Fld.below HG.out HB.out) | exact (Fld.below HG.out sU_) | (with_reducible refine Fld.alloc ?_ _) | (with_reducible refine Fld.drewN ?_ _) | (with_reducible refine Fld.drew ?_)))
     rintro e w11 ⟨rfl, hb⟩
     refine ⟨_, rfl, ?_⟩
     refine nx2_ (blk_below (kU_ BK104.out) hb) (below_step sU_ hb) ?_
     clear BK104 HB
     intro BK104 HB
     (try clear hb)
     (try clear hb2)
     (try clear hk)
     (try clear hi)
     refine hK.out _ _ ⟨bc0_ BK104.out, bc1_ BK104.out, bc2_ BK104.out⟩ (fun hHeld => ?_)
     clear hK K
     refine norm_ (a' := ?_) ?_ ?_
     rotate_left
     ·show Act.put _ (some 16) _ = _
      simp only [Act.put, s1_, s2_, s3_, i64_w, i32_w]
      rfl
     refine pq_ 14 17 30 32767 HT_.out ?_
     refine pq_ 15 18 30 65535 HT_.out ?_
     refine pq_ 16 19 30 131071 HT_.out ?_
     refine pq_ 17 20 30 262143 HT_.out ?_
     refine tq_ 18 21 30 524287 HT_.out HW_.out hHeld ?_
     refine pq_ 19 22 30 1048575 HT_.out ?_
     refine pq_ 20 23 30 2097151 HT_.out ?_
     refine pq_ 21 24 30 4194303 HT_.out ?_
     refine pq_ 22 25 30 8388607 HT_.out ?_
     refine pq_ 24 27 30 25165823 HT_.out ?_
     refine tq_ 23 26 30 33554431 HT_.out HW_.out hHeld ?_
     refine tq_ 25 28 30 67108863 HT_.out HW_.out hHeld ?_
     refine oq_ 26 29 30 134217727 HT_.out fun K hK => ?_
     refine gs_ Tryd.func52 #[.int .i64 a0_0] ?_
     with_reducible refine (field_P.calls a0_0 t107 _ ?side1 A8.out).mono ?_
     (case side1 => repeat (first | with_reducible exact HG.out | with_reducible exact (Fld.below HG.out HB.out) | exact (Fld.below HG.out sU_) | (with_reducible refine Fld.alloc ?_ _) | (with_reducible refine Fld.drewN ?_ _) | (with_reducible refine Fld.drew ?_)))
     rintro e w12 ⟨rfl, hb⟩
     refine ⟨_, rfl, ?_⟩
     refine nx2_ (blk_below (kU_ BK104.out) hb) (below_step sU_ hb) ?_
     clear BK104 HB
     intro BK104 HB
     (try clear hb)
     (try clear hb2)
     (try clear hk)
     (try clear hi)
     refine hK.out _ _ ⟨bc0_ BK104.out, bc1_ BK104.out, bc2_ BK104.out⟩ (fun hHeld => ?_)
     clear hK K
     refine norm_ (a' := ?_) ?_ ?_
     rotate_left
     ·show Act.put _ (some 29) _ = _
      simp only [Act.put, s1_, s2_, s3_, i64_w, i32_w]
      rfl
     refine pq_ 27 30 30 268435455 HT_.out ?_
     refine pq_ 28 31 30 536870911 HT_.out ?_
     refine pq_ 29 2 30 1073741823 HT_.out ?_
     refine done_ (done_of HT_.out (by kernel_rfl)) ?_
     try go_wp2
     go_ret
     exact ⟨eW_, sU_⟩
    rw [if_neg c7] at H
    have c7b0 : decide (0 < a0_2) = false := decide_eq_false c7
    clear c7
    obtain rfl := Option.some.inj H
    go_enter Tryd.func38, Tryd.ntmps38
    try go_wp2_with (first | ((with_reducible refine gate_dst (N := 1) rfl ?_); refine bx_ 1 24 #[.int .i64 a0_0, .int .i64 a0_1, .int .u64 a0_2] ?_; intro gb104 hg w13 hbox hb; refine nx4_ (below_step (bU_ HB.out) hb) (hbox) ((hs_ hg (below_size (bU_ HB.out)))) ((hs_ hg (below_size (bU_ HB.out)))) ?_; clear HB; intro HB BK104 GW104 GE104; clear hb hbox hg))
    refine nx2_ (blk_drew BK104.out) (below_drew1 HB.out) ?_
    clear BK104 HB
    intro BK104 HB
    refine start_ (n := 30) (S := fun w' => w'.cell? ⟨gb104, 0, none⟩ = some (.int .i64 a0_0) ∧ w'.cell? ⟨gb104, 1, none⟩ = some (.int .i64 a0_1) ∧ w'.cell? ⟨gb104, 2, none⟩ = some (.int .u64 a0_2)) (ds := []) (bv 30 0) (by kernel_rfl) rfl rfl ⟨bc0_ BK104.out, bc1_ BK104.out, bc2_ BK104.out⟩ (fun hHeld => ?_); refine with_tabW code_Valid.tab1 code_Valid.bits1 (fun HT_ HW_ => ?_)
    generalize w13.drew = w14 at BK104 HB hHeld ⊢
    refine pq_ 0 3 30 1 HT_.out ?_
    refine tq_ 1 4 30 3 HT_.out HW_.out hHeld ?_
    refine oq_ 2 5 30 7 HT_.out fun K hK => ?_
    refine gs_ Tryd.func54 #[.int .i64 a0_0] ?_
    with_reducible refine (field_Valid.calls a0_0 true _ A2.out).mono ?_
    rintro e w' ⟨rfl, ⟨nd, rfl⟩⟩
    refine ⟨_, rfl, ?_⟩
    refine hK.out _ _ ⟨bc0_ BK104.out, bc1_ BK104.out, bc2_ BK104.out⟩ (fun hHeld => ?_)
    clear hK K
    refine norm_ (a' := ?_) ?_ ?_
    rotate_left
    ·show Act.put _ (some 5) _ = _
     simp only [Act.put, s1_, s2_, s3_, i64_w, i32_w]
     rfl
    refine pq_ 3 6 30 15 HT_.out ?_
    refine pq_ 4 7 30 31 HT_.out ?_
    refine tq_ 5 8 30 63 HT_.out HW_.out hHeld ?_
    refine pq_ 6 9 30 127 HT_.out ?_
    refine pq_ 7 10 30 255 HT_.out ?_
    refine pq_ 8 11 30 511 HT_.out ?_
    refine pq_ 9 12 30 1023 HT_.out ?_
    refine pq_ 11 14 30 3071 HT_.out ?_
    refine tq_ 10 13 30 4095 HT_.out HW_.out hHeld ?_
    refine tq_ 12 15 30 8191 HT_.out HW_.out hHeld ?_
    refine oq_ 13 16 30 16383 HT_.out fun K hK => ?_
    refine gs_ Tryd.func63 #[.int .i64 a0_0] ?_
    with_reducible refine (code_greatest.calls a0_0 t106 _ ?side1 A5.out).mono ?_
    (case side1 => repeat (first | with_reducible exact HG.out | with_reducible exact (Fld.below HG.out HB.out) | exact (Fld.below HG.out sU_) | (with_reducible refine Fld.alloc ?_ _) | (with_reducible refine Fld.drewN ?_ _) | (with_reducible refine Fld.drew ?_)))
    rintro e w15 ⟨rfl, hb⟩
    refine ⟨_, rfl, ?_⟩
    refine nx2_ (blk_below (kU_ BK104.out) hb) (below_step sU_ hb) ?_
    clear BK104 HB
    intro BK104 HB
    (try clear hb)
    (try clear hb2)
    (try clear hk)
    (try clear hi)
    refine hK.out _ _ ⟨bc0_ BK104.out, bc1_ BK104.out, bc2_ BK104.out⟩ (fun hHeld => ?_)
    clear hK K
    refine norm_ (a' := ?_) ?_ ?_
    rotate_left
    ·show Act.put _ (some 16) _ = _
     simp only [Act.put, s1_, s2_, s3_, i64_w, i32_w]
     rfl
    refine pq_ 14 17 30 32767 HT_.out ?_
    refine pq_ 15 18 30 65535 HT_.out ?_
    refine pq_ 16 19 30 131071 HT_.out ?_
    refine pq_ 17 20 30 262143 HT_.out ?_
    refine tq_ 18 21 30 524287 HT_.out HW_.out hHeld ?_
    refine pq_ 19 22 30 1048575 HT_.out ?_
    refine pq_ 20 23 30 2097151 HT_.out ?_
    refine pq_ 21 24 30 4194303 HT_.out ?_
    refine uq_ 22 25 30 8388607 HT_.out ?_
    refine uq_ 23 26 30 16777215 HT_.out ?_
    refine uq_ 24 27 30 33554431 HT_.out ?_
    refine uq_ 25 28 30 67108863 HT_.out ?_
    refine uq_ 26 29 30 134217727 HT_.out ?_
    refine uq_ 27 30 30 268435455 HT_.out ?_
    refine pq_ 28 31 30 536870911 HT_.out ?_
    refine pq_ 29 2 30 1073741823 HT_.out ?_
    refine done_ (done_of HT_.out (by kernel_rfl)) ?_
    try go_wp2
    go_ret
    exact ⟨eW_, sU_⟩
   rw [if_neg c6] at H
   have c6b0 := decide_eq_false c6
   clear c6
   obtain rfl := Option.some.inj H
   go_enter Tryd.func38, Tryd.ntmps38
   try go_wp2_with (first | ((with_reducible refine gate_dst (N := 1) rfl ?_); refine bx_ 1 24 #[.int .i64 a0_0, .int .i64 a0_1, .int .u64 a0_2] ?_; intro gb104 hg w16 hbox hb; refine nx4_ (below_step (bU_ HB.out) hb) (hbox) ((hs_ hg (below_size (bU_ HB.out)))) ((hs_ hg (below_size (bU_ HB.out)))) ?_; clear HB; intro HB BK104 GW104 GE104; clear hb hbox hg))
   refine nx2_ (blk_drew BK104.out) (below_drew1 HB.out) ?_
   clear BK104 HB
   intro BK104 HB
   refine start_ (n := 30) (S := fun w' => w'.cell? ⟨gb104, 0, none⟩ = some (.int .i64 a0_0) ∧ w'.cell? ⟨gb104, 1, none⟩ = some (.int .i64 a0_1) ∧ w'.cell? ⟨gb104, 2, none⟩ = some (.int .u64 a0_2)) (ds := []) (bv 30 0) (by kernel_rfl) rfl rfl ⟨bc0_ BK104.out, bc1_ BK104.out, bc2_ BK104.out⟩ (fun hHeld => ?_); refine with_tabW code_Valid.tab1 code_Valid.bits1 (fun HT_ HW_ => ?_)
   generalize w16.drew = w17 at BK104 HB hHeld ⊢
   refine pq_ 0 3 30 1 HT_.out ?_
   refine tq_ 1 4 30 3 HT_.out HW_.out hHeld ?_
   refine oq_ 2 5 30 7 HT_.out fun K hK => ?_
   refine gs_ Tryd.func54 #[.int .i64 a0_0] ?_
   with_reducible refine (field_Valid.calls a0_0 true _ A2.out).mono ?_
   rintro e w' ⟨rfl, ⟨nd, rfl⟩⟩
   refine ⟨_, rfl, ?_⟩
   refine hK.out _ _ ⟨bc0_ BK104.out, bc1_ BK104.out, bc2_ BK104.out⟩ (fun hHeld => ?_)
   clear hK K
   refine norm_ (a' := ?_) ?_ ?_
   rotate_left
   ·show Act.put _ (some 5) _ = _
    simp only [Act.put, s1_, s2_, s3_, i64_w, i32_w]
    rfl
   refine pq_ 3 6 30 15 HT_.out ?_
   refine pq_ 4 7 30 31 HT_.out ?_
   refine tq_ 5 8 30 63 HT_.out HW_.out hHeld ?_
   refine pq_ 6 9 30 127 HT_.out ?_
   refine pq_ 7 10 30 255 HT_.out ?_
   refine pq_ 8 11 30 511 HT_.out ?_
   refine pq_ 9 12 30 1023 HT_.out ?_
   refine pq_ 11 14 30 3071 HT_.out ?_
   refine tq_ 10 13 30 4095 HT_.out HW_.out hHeld ?_
   refine tq_ 12 15 30 8191 HT_.out HW_.out hHeld ?_
   refine oq_ 13 16 30 16383 HT_.out fun K hK => ?_
   refine gs_ Tryd.func63 #[.int .i64 a0_0] ?_
   with_reducible refine (code_greatest.calls a0_0 t106 _ ?side1 A5.out).mono ?_
   (case side1 => repeat (first | with_reducible exact HG.out | with_reducible exact (Fld.below HG.out HB.out) | exact (Fld.below HG.out sU_) | (with_reducible refine Fld.alloc ?_ _) | (with_reducible refine Fld.drewN ?_ _) | (with_reducible refine Fld.drew ?_)))
   rintro e w18 ⟨rfl, hb⟩
   refine ⟨_, rfl, ?_⟩
   refine nx2_ (blk_below (kU_ BK104.out) hb) (below_step sU_ hb) ?_
   clear BK104 HB
   intro BK104 HB
   (try clear hb)
   (try clear hb2)
   (try clear hk)
   (try clear hi)
   refine hK.out _ _ ⟨bc0_ BK104.out, bc1_ BK104.out, bc2_ BK104.out⟩ (fun hHeld => ?_)
   clear hK K
   refine norm_ (a' := ?_) ?_ ?_
   rotate_left
   ·show Act.put _ (some 16) _ = _
    simp only [Act.put, s1_, s2_, s3_, i64_w, i32_w]
    rfl
   refine pq_ 14 17 30 32767 HT_.out ?_
   refine pq_ 15 18 30 65535 HT_.out ?_
   refine pq_ 16 19 30 131071 HT_.out ?_
   refine uq_ 17 20 30 262143 HT_.out ?_
   refine uq_ 18 21 30 524287 HT_.out ?_
   refine uq_ 19 22 30 1048575 HT_.out ?_
   refine pq_ 20 23 30 2097151 HT_.out ?_
   refine pq_ 21 24 30 4194303 HT_.out ?_
   refine uq_ 22 25 30 8388607 HT_.out ?_
   refine uq_ 23 26 30 16777215 HT_.out ?_
   refine uq_ 24 27 30 33554431 HT_.out ?_
   refine uq_ 25 28 30 67108863 HT_.out ?_
   refine uq_ 26 29 30 134217727 HT_.out ?_
   refine uq_ 27 30 30 268435455 HT_.out ?_
   refine pq_ 28 31 30 536870911 HT_.out ?_
   refine pq_ 29 2 30 1073741823 HT_.out ?_
   refine done_ (done_of HT_.out (by kernel_rfl)) ?_
   try go_wp2
   go_ret
   exact ⟨eW_, sU_⟩
  rw [if_neg c4] at H
  have c4b0 : decide (0 ≤ a0_1) = false := decide_eq_false c4
  clear c4
  obtain rfl := Option.some.inj H
  go_enter Tryd.func38, Tryd.ntmps38
  try go_wp2_with (first | ((with_reducible refine gate_dst (N := 1) rfl ?_); refine bx_ 1 24 #[.int .i64 a0_0, .int .i64 a0_1, .int .u64 a0_2] ?_; intro gb104 hg w19 hbox hb; refine nx4_ (below_step (bU_ HB.out) hb) (hbox) ((hs_ hg (below_size (bU_ HB.out)))) ((hs_ hg (below_size (bU_ HB.out)))) ?_; clear HB; intro HB BK104 GW104 GE104; clear hb hbox hg))
  refine nx2_ (blk_drew BK104.out) (below_drew1 HB.out) ?_
  clear BK104 HB
  intro BK104 HB
  refine start_ (n := 30) (S := fun w' => w'.cell? ⟨gb104, 0, none⟩ = some (.int .i64 a0_0) ∧ w'.cell? ⟨gb104, 1, none⟩ = some (.int .i64 a0_1) ∧ w'.cell? ⟨gb104, 2, none⟩ = some (.int .u64 a0_2)) (ds := []) (bv 30 0) (by kernel_rfl) rfl rfl ⟨bc0_ BK104.out, bc1_ BK104.out, bc2_ BK104.out⟩ (fun hHeld => ?_); refine with_tabW code_Valid.tab1 code_Valid.bits1 (fun HT_ HW_ => ?_)
  generalize w19.drew = w20 at BK104 HB hHeld ⊢
  refine pq_ 0 3 30 1 HT_.out ?_
  refine tq_ 1 4 30 3 HT_.out HW_.out hHeld ?_
  refine oq_ 2 5 30 7 HT_.out fun K hK => ?_
  refine gs_ Tryd.func54 #[.int .i64 a0_0] ?_
  with_reducible refine (field_Valid.calls a0_0 true _ A2.out).mono ?_
  rintro e w' ⟨rfl, ⟨nd, rfl⟩⟩
  refine ⟨_, rfl, ?_⟩
  refine hK.out _ _ ⟨bc0_ BK104.out, bc1_ BK104.out, bc2_ BK104.out⟩ (fun hHeld => ?_)
  clear hK K
  refine norm_ (a' := ?_) ?_ ?_
  rotate_left
  ·show Act.put _ (some 5) _ = _
   simp only [Act.put, s1_, s2_, s3_, i64_w, i32_w]
   rfl
  refine pq_ 3 6 30 15 HT_.out ?_
  refine pq_ 4 7 30 31 HT_.out ?_
  refine tq_ 5 8 30 63 HT_.out HW_.out hHeld ?_
  refine pq_ 6 9 30 127 HT_.out ?_
  refine pq_ 7 10 30 255 HT_.out ?_
  refine pq_ 8 11 30 511 HT_.out ?_
  refine uq_ 9 12 30 1023 HT_.out ?_
  refine uq_ 10 13 30 2047 HT_.out ?_
  refine uq_ 11 14 30 4095 HT_.out ?_
  refine uq_ 12 15 30 8191 HT_.out ?_
  refine uq_ 13 16 30 16383 HT_.out ?_
  refine uq_ 14 17 30 32767 HT_.out ?_
  refine pq_ 15 18 30 65535 HT_.out ?_
  refine pq_ 16 19 30 131071 HT_.out ?_
  refine uq_ 17 20 30 262143 HT_.out ?_
  refine uq_ 18 21 30 524287 HT_.out ?_
  refine uq_ 19 22 30 1048575 HT_.out ?_
  refine pq_ 20 23 30 2097151 HT_.out ?_
  refine pq_ 21 24 30 4194303 HT_.out ?_
  refine uq_ 22 25 30 8388607 HT_.out ?_
  refine uq_ 23 26 30 16777215 HT_.out ?_
  refine uq_ 24 27 30 33554431 HT_.out ?_
  refine uq_ 25 28 30 67108863 HT_.out ?_
  refine uq_ 26 29 30 134217727 HT_.out ?_
  refine uq_ 27 30 30 268435455 HT_.out ?_
  refine pq_ 28 31 30 536870911 HT_.out ?_
  refine pq_ 29 2 30 1073741823 HT_.out ?_
  refine done_ (done_of HT_.out (by kernel_rfl)) ?_
  try go_wp2
  go_ret
  exact ⟨eW_, sU_⟩
 replace c3 := Bool.eq_false_iff.mpr c3
 subst c3
 rw [if_neg (show ¬ (false = true) by decide)] at H
 obtain rfl := Option.some.inj H
 go_enter Tryd.func38, Tryd.ntmps38
 try go_wp2_with (first | ((with_reducible refine gate_dst (N := 1) rfl ?_); refine bx_ 1 24 #[.int .i64 a0_0, .int .i64 a0_1, .int .u64 a0_2] ?_; intro gb104 hg w21 hbox hb; refine nx4_ (below_step (bU_ HB.out) hb) (hbox) ((hs_ hg (below_size (bU_ HB.out)))) ((hs_ hg (below_size (bU_ HB.out)))) ?_; clear HB; intro HB BK104 GW104 GE104; clear hb hbox hg))
 refine nx2_ (blk_drew BK104.out) (below_drew1 HB.out) ?_
 clear BK104 HB
 intro BK104 HB
 refine start_ (n := 30) (S := fun w' => w'.cell? ⟨gb104, 0, none⟩ = some (.int .i64 a0_0) ∧ w'.cell? ⟨gb104, 1, none⟩ = some (.int .i64 a0_1) ∧ w'.cell? ⟨gb104, 2, none⟩ = some (.int .u64 a0_2)) (ds := []) (bv 30 0) (by kernel_rfl) rfl rfl ⟨bc0_ BK104.out, bc1_ BK104.out, bc2_ BK104.out⟩ (fun hHeld => ?_); refine with_tabW code_Valid.tab1 code_Valid.bits1 (fun HT_ HW_ => ?_)
 generalize w21.drew = w22 at BK104 HB hHeld ⊢
 refine pq_ 0 3 30 1 HT_.out ?_
 refine tq_ 1 4 30 3 HT_.out HW_.out hHeld ?_
 refine oq_ 2 5 30 7 HT_.out fun K hK => ?_
 refine gs_ Tryd.func54 #[.int .i64 a0_0] ?_
 with_reducible refine (field_Valid.calls a0_0 false _ A2.out).mono ?_
 rintro e w' ⟨rfl, ⟨nd, rfl⟩⟩
 refine ⟨_, rfl, ?_⟩
 refine hK.out _ _ ⟨bc0_ BK104.out, bc1_ BK104.out, bc2_ BK104.out⟩ (fun hHeld => ?_)
 clear hK K
 refine norm_ (a' := ?_) ?_ ?_
 rotate_left
 ·show Act.put _ (some 5) _ = _
  simp only [Act.put, s1_, s2_, s3_, i64_w, i32_w]
  rfl
 refine pq_ 3 6 30 15 HT_.out ?_
 refine uq_ 4 7 30 31 HT_.out ?_
 refine uq_ 5 8 30 63 HT_.out ?_
 refine uq_ 6 9 30 127 HT_.out ?_
 refine pq_ 7 10 30 255 HT_.out ?_
 refine pq_ 8 11 30 511 HT_.out ?_
 refine uq_ 9 12 30 1023 HT_.out ?_
 refine uq_ 10 13 30 2047 HT_.out ?_
 refine uq_ 11 14 30 4095 HT_.out ?_
 refine uq_ 12 15 30 8191 HT_.out ?_
 refine uq_ 13 16 30 16383 HT_.out ?_
 refine uq_ 14 17 30 32767 HT_.out ?_
 refine pq_ 15 18 30 65535 HT_.out ?_
 refine pq_ 16 19 30 131071 HT_.out ?_
 refine uq_ 17 20 30 262143 HT_.out ?_
 refine uq_ 18 21 30 524287 HT_.out ?_
 refine uq_ 19 22 30 1048575 HT_.out ?_
 refine pq_ 20 23 30 2097151 HT_.out ?_
 refine pq_ 21 24 30 4194303 HT_.out ?_
 refine uq_ 22 25 30 8388607 HT_.out ?_
 refine uq_ 23 26 30 16777215 HT_.out ?_
 refine uq_ 24 27 30 33554431 HT_.out ?_
 refine uq_ 25 28 30 67108863 HT_.out ?_
 refine uq_ 26 29 30 134217727 HT_.out ?_
 refine uq_ 27 30 30 268435455 HT_.out ?_
 refine pq_ 28 31 30 536870911 HT_.out ?_
 refine pq_ 29 2 30 1073741823 HT_.out ?_
 refine done_ (done_of HT_.out (by kernel_rfl)) ?_
 try go_wp2
 go_ret
 exact ⟨eW_, sU_⟩

def field_Mul.f (a0 : Int) (a1 : Int) (a2 : Int) : Option (Int) := (field_P.f a0).bind fun t108 => (if t108 = 0 then (some 0) else (some (Int.tmod (IntKind.u64.wrap ((Int.tmod a1 t108) * (Int.tmod a2 t108))) t108)))
set_option maxHeartbeats 8000000 in
set_option maxRecDepth 100000 in
theorem field_Mul.calls (a0 : Int) (a1 : Int) (a2 : Int) (r : Int) (w : World) (hG : Fld w) (h : field_Mul.f a0 a1 a2 = some r) :
  Calls Tryd.prog 19 #[.int .i64 a0, .int .u64 a1, .int .u64 a2] w fun e w' => e = .returned (.int .u64 r) ∧ Below w.heap.size w w' := by
 have HG := ak hG
 clear hG
 have HB := ak (Below.refl w.heap.size w)
 have H := h
 clear h
 unfold field_Mul.f at H
 revert H
 refine bd_ fun t108 A4 H => ?_
 by_cases c5 : t108 = 0
 ·rw [if_pos c5] at H
  have c5b0 := beq_iff_eq.mpr c5
  have c5b1 := bne_eq_false_iff_eq.mpr c5
  clear c5
  obtain rfl := Option.some.inj H
  go_enter Tryd.func19, Tryd.ntmps19
  go_wp2_with (first | (go_at_call 52; (with_reducible refine (field_P.calls a0 t108 _ ?side1 A4.out).mono ?_); (case side1 => exact fU_ HG.out HB.out); rintro e w6 ⟨rfl, hb⟩; refine nx1_ (below_step (bU_ HB.out) hb) ?_; clear HB; intro HB; clear hb))
  repeat (go_quiet (first | (go_at_call 52; (with_reducible refine (field_P.calls a0 t108 _ ?side1 A4.out).mono ?_); (case side1 => exact fU_ HG.out HB.out); rintro e w6 ⟨rfl, hb⟩; refine nx1_ (below_step (bU_ HB.out) hb) ?_; clear HB; intro HB; clear hb)); try go_wp2_with (first | (go_at_call 52; (with_reducible refine (field_P.calls a0 t108 _ ?side1 A4.out).mono ?_); (case side1 => exact fU_ HG.out HB.out); rintro e w6 ⟨rfl, hb⟩; refine nx1_ (below_step (bU_ HB.out) hb) ?_; clear HB; intro HB; clear hb)))
  go_ret
  exact ⟨eW_, bU_ HB.out⟩
 rw [if_neg c5] at H
 have c5b0 := beq_eq_false_iff_ne.mpr c5
 have c5b1 := bne_iff_ne.mpr c5
 obtain rfl := Option.some.inj H
 go_enter Tryd.func19, Tryd.ntmps19
 go_wp2_with (first | (go_at_call 52; (with_reducible refine (field_P.calls a0 t108 _ ?side1 A4.out).mono ?_); (case side1 => exact fU_ HG.out HB.out); rintro e w7 ⟨rfl, hb⟩; refine nx1_ (below_step (bU_ HB.out) hb) ?_; clear HB; intro HB; clear hb))
 repeat (go_quiet (first | (go_at_call 52; (with_reducible refine (field_P.calls a0 t108 _ ?side1 A4.out).mono ?_); (case side1 => exact fU_ HG.out HB.out); rintro e w7 ⟨rfl, hb⟩; refine nx1_ (below_step (bU_ HB.out) hb) ?_; clear HB; intro HB; clear hb)); try go_wp2_with (first | (go_at_call 52; (with_reducible refine (field_P.calls a0 t108 _ ?side1 A4.out).mono ?_); (case side1 => exact fU_ HG.out HB.out); rintro e w7 ⟨rfl, hb⟩; refine nx1_ (below_step (bU_ HB.out) hb) ?_; clear HB; intro HB; clear hb)))
 go_ret
 exact ⟨eW_, bU_ HB.out⟩

def field_Pow.l0 : Nat → Int → Int → Int → Int → Option (Int)
 | 0, _, _, _, _ => none
 | k + 1, x0, x1, x2, x7 => if x2 > 0 then (if (Go.bits .and .u64 x2 1) = 1 then ((field_Mul.f x0 x7 x1).bind fun t110 => ((field_Mul.f x0 x1 x1).bind fun t111 => (field_Pow.l0 k x0 t111 (x2 / 2) t110))) else ((field_Mul.f x0 x1 x1).bind fun t112 => (field_Pow.l0 k x0 t112 (x2 / 2) x7))) else (some x7)
def field_Pow.f (k : Nat) (a0 : Int) (a1 : Int) (a2 : Int) : Option (Int) := (field_Valid.f a0).bind fun t109 => (if t109 = true then (field_Pow.l0 k a0 a1 a2 1) else (some 0))
theorem field_Pow.mono_l : ∀ k, (∀ y0 y1 y2 y3, LeO (field_Pow.l0 k y0 y1 y2 y3) (field_Pow.l0 (k + 1) y0 y1 y2 y3))
 | 0 => fun _ _ _ _ r h => by simp [field_Pow.l0] at h
 | k + 1 => by
  have ih0 := field_Pow.mono_l k
  ·intro y0 y1 y2 y3
   unfold field_Pow.l0
   with_reducible repeat' first | apply ih0 | exact LeO.refl _ | exact LeO.none _ | refine LeO.ite ?_ ?_ | refine LeO.bind ?_ (fun _ => ?_)
theorem field_Pow.mono : ∀ a0 a1 a2 k, LeO (field_Pow.f k a0 a1 a2) (field_Pow.f (k + 1) a0 a1 a2) := by
 intro a0 a1 a2 k
 have ih0 := field_Pow.mono_l k
 unfold field_Pow.f
 with_reducible repeat' first | apply ih0 | exact LeO.refl _ | exact LeO.none _ | refine LeO.ite ?_ ?_ | refine LeO.bind ?_ (fun _ => ?_)
set_option maxHeartbeats 8000000 in
set_option maxRecDepth 100000 in
theorem field_Pow.calls (k : Nat) (a0 : Int) (a1 : Int) (a2 : Int) (r : Int) (w : World) (hG : Fld w) (h : field_Pow.f k a0 a1 a2 = some r) :
  Calls Tryd.prog 41 #[.int .i64 a0, .int .u64 a1, .int .u64 a2] w fun e w' => e = .returned (.int .u64 r) ∧ Below w.heap.size w w' := by
 have HG := ak hG
 clear hG
 have HB := ak (Below.refl w.heap.size w)
 have H : ((field_Valid.f a0).bind fun t109 => (if t109 = true then (field_Pow.l0 k a0 a1 a2 1) else (some 0))) = some r := h
 clear h
 revert H
 refine bd_ fun t109 A4 H => ?_
 by_cases c5 : t109 = true
 ·subst c5
  rw [if_pos rfl] at H
  have H' := ak H
  clear H
  go_enter Tryd.func41, Tryd.ntmps41
  go_wp2_with (first | ((with_reducible refine gate_callee (f := 54) rfl ?_); refine gl_ (some 9) Tryd.func54 #[.int .i64 a0] ?_; (with_reducible refine (field_Valid.calls a0 true _ A4.out).mono ?_); rintro e w' ⟨rfl, ⟨nd, rfl⟩⟩; refine ⟨_, rfl, ?_⟩))
  go_loopg [1, 2, 7] k (fun kq v1 v2 v7 w' => ∃ (x1_1 : Int) (x2_1 : Int) (x7_1 : Int), v1 = .int .u64 x1_1 ∧ v2 = .int .u64 x2_1 ∧ v7 = .int .u64 x7_1 ∧ Aside0 (field_Pow.l0 kq a0 x1_1 x2_1 x7_1 = some r) ∧ Aside0 (kq ≤ k) ∧ Aside0 (Below w.heap.size w w'))
  case atStart => exact ⟨(a1), (a2), (1), gb_, gb_, gb_, H', ⟨Nat.le_refl _⟩, ⟨bU_ HB.out⟩⟩
  case round =>
   clear H'
   (try clear p2); (try clear c4); (try clear c5)
   obtain ⟨x1_1, x2_1, x7_1, rfl, rfl, rfl, HA, HK1, HB⟩ := hrel
   cases gk with
   | zero => exact absurd HA.out (by simp [field_Pow.l0])
   | succ k1 =>
    have H := HA.out
    clear HA
    simp only [field_Pow.l0] at H
    by_cases c6 : x2_1 > 0
    ·rw [if_pos c6] at H
     have c6b0 : decide (0 < x2_1) = true := decide_eq_true c6
     clear c6
     by_cases c7 : (Go.bits .and .u64 x2_1 1) = 1
     ·rw [if_pos c7] at H
      have c7b0 := beq_iff_eq.mpr c7
      have c7b1 := bne_eq_false_iff_eq.mpr c7
      clear c7
      revert H
      refine bd_ fun t110 A8 H => ?_
      revert H
      refine bd_ fun t111 A9 H => ?_
      have H' := ak H
      clear H
      go_wp2_with (first | ((with_reducible refine gate_callee (f := 19) rfl ?_); refine gl_ (some 21) Tryd.func19 #[.int .i64 a0, .int .u64 x7_1, .int .u64 x1_1] ?_; (with_reducible refine (field_Mul.calls a0 x7_1 x1_1 t110 _ ?side1 A8.out).mono ?_); (case side1 => exact fU_ HG.out HB.out); rintro e w10 ⟨rfl, hb⟩; refine ⟨_, rfl, ?_⟩; refine nx1_ (below_step (bU_ HB.out) hb) ?_; clear HB; intro HB; clear hb) | ((with_reducible refine gate_callee (f := 19) rfl ?_); refine gl_ (some 25) Tryd.func19 #[.int .i64 a0, .int .u64 x1_1, .int .u64 x1_1] ?_; (with_reducible refine (field_Mul.calls a0 x1_1 x1_1 t111 _ ?side1 A9.out).mono ?_); (case side1 => exact fU_ HG.out HB.out); rintro e w11 ⟨rfl, hb⟩; refine ⟨_, rfl, ?_⟩; refine nx1_ (below_step (bU_ HB.out) hb) ?_; clear HB; intro HB; clear hb))
      go_roundg k1
      case measure => have := HK1.out; omega
      case rel => exact ⟨(t111), (x2_1 / 2), (t110), gb_, gb_, gb_, H', ⟨by have := HK1.out; omega⟩, ⟨bU_ HB.out⟩⟩
     rw [if_neg c7] at H
     have c7b0 := beq_eq_false_iff_ne.mpr c7
     have c7b1 := bne_iff_ne.mpr c7
     revert H
     refine bd_ fun t112 A12 H => ?_
     have H' := ak H
     clear H
     go_wp2_with (first | ((with_reducible refine gate_callee (f := 19) rfl ?_); refine gl_ (some 25) Tryd.func19 #[.int .i64 a0, .int .u64 x1_1, .int .u64 x1_1] ?_; (with_reducible refine (field_Mul.calls a0 x1_1 x1_1 t112 _ ?side1 A12.out).mono ?_); (case side1 => exact fU_ HG.out HB.out); rintro e w13 ⟨rfl, hb⟩; refine ⟨_, rfl, ?_⟩; refine nx1_ (below_step (bU_ HB.out) hb) ?_; clear HB; intro HB; clear hb))
     go_roundg k1
     case measure => have := HK1.out; omega
     case rel => exact ⟨(t112), (x2_1 / 2), (x7_1), gb_, gb_, gb_, H', ⟨by have := HK1.out; omega⟩, ⟨bU_ HB.out⟩⟩
    rw [if_neg c6] at H
    have c6b0 : decide (0 < x2_1) = false := decide_eq_false c6
    clear c6
    obtain rfl := Option.some.inj H
    go_wp2
    go_ret
    exact ⟨eW_, bU_ HB.out⟩
 replace c5 := Bool.eq_false_iff.mpr c5
 subst c5
 rw [if_neg (show ¬ (false = true) by decide)] at H
 obtain rfl := Option.some.inj H
 go_enter Tryd.func41, Tryd.ntmps41
 go_wp2_with (first | ((with_reducible refine gate_callee (f := 54) rfl ?_); refine gl_ (some 9) Tryd.func54 #[.int .i64 a0] ?_; (with_reducible refine (field_Valid.calls a0 false _ A4.out).mono ?_); rintro e w' ⟨rfl, ⟨nd, rfl⟩⟩; refine ⟨_, rfl, ?_⟩))
 go_ret
 exact ⟨eW_, bU_ HB.out⟩

def fold_Next.f (k : Nat) (a0_0 : Int) (a0_1 : Int) (a0_2 : Int) : Option (Int × Int × Int × Int) := (code_Valid.f a0_0 a0_1 a0_2).bind fun t115 => (if t115 = true then (if a0_1 < 3 then (some (0, 0, 0, 2)) else ((field_Pow.f k a0_0 a0_2 8).bind fun t116 => (some (a0_0, wrap64 (a0_1 - 3), t116, 0)))) else (some (0, 0, 0, 1)))
theorem fold_Next.mono : ∀ a0 a1 a2 k, LeO (fold_Next.f k a0 a1 a2) (fold_Next.f (k + 1) a0 a1 a2) := by
 intro a0 a1 a2 k
 unfold fold_Next.f
 with_reducible repeat' first | apply field_Pow.mono | exact LeO.refl _ | exact LeO.none _ | refine LeO.ite ?_ ?_ | refine LeO.bind ?_ (fun _ => ?_)
def fold_Next.T5 : Bool × List (List Nat × List Nat) := (true, [([], []), ([0], [0]), ([], []), ([2], [2]), ([3], [3]), ([], []), ([5], [5]), ([], []), ([7], [7]), ([6, 8], [6, 8]), ([1, 4, 9], [1, 4, 9]), ([10, 9, 0, 1, 2, 3, 4, 5, 6, 7, 8, 9, 10], [10]), ([11, 0, 1, 2, 3, 4, 5, 6, 7, 8, 9, 10, 11], [])])
def fold_Next.B5 : List Nat := [0, 1, 0, 4, 12, 0, 32, 0, 128, 480, 1023, 2047, 4095]
theorem fold_Next.tab5 : rtab .any (opsOf Tryd.f10 5) = fold_Next.T5 := by kernel_rfl
theorem fold_Next.bits5 : waitsOk fold_Next.T5.2 fold_Next.B5 = true := by kernel_rfl
set_option maxHeartbeats 8000000 in
set_option maxRecDepth 100000 in
theorem fold_Next.calls (k : Nat) (a0_0 : Int) (a0_1 : Int) (a0_2 : Int) (r1 : Int) (r2 : Int) (r3 : Int) (r4 : Int) (w : World) (hG : Fld w) (h : fold_Next.f k a0_0 a0_1 a0_2 = some (r1, r2, r3, r4)) :
  Calls Tryd.prog 10 #[.agg #[.int .i64 a0_0, .int .i64 a0_1, .int .u64 a0_2]] w fun e w' => e = .returned (.tuple #[.agg #[.int .i64 r1, .int .i64 r2, .int .u64 r3], .int .i64 r4]) ∧ Below w.heap.size w w' := by
 have hu24 := Tryd.underlying24
 have HG := ak hG
 clear hG
 have HB := ak (Below.refl w.heap.size w)
 have H := h
 clear h
 unfold fold_Next.f at H
 revert H
 refine bd_ fun t115 A2 H => ?_
 by_cases c3 : t115 = true
 ·subst c3
  rw [if_pos rfl] at H
  by_cases c4 : a0_1 < 3
  ·rw [if_pos c4] at H
   have c4b0 := decide_eq_true c4
   clear c4
   simp only [Option.some.injEq, Prod.mk.injEq] at H
   obtain ⟨rfl, rfl, rfl, rfl⟩ := H
   go_enter Tryd.func10, Tryd.ntmps10
   go_wp2_with (first | ((with_reducible refine gate_dst (N := 1) rfl ?_); refine bx_ 1 24 #[.int .i64 a0_0, .int .i64 a0_1, .int .u64 a0_2] ?_; intro gb113 hg w5 hbox hb; refine nx4_ (below_step (bU_ HB.out) hb) (hbox) ((hs_ hg (below_size (bU_ HB.out)))) ((hs_ hg (below_size (bU_ HB.out)))) ?_; clear HB; intro HB BK113 GW113 GE113; clear hb hbox hg) | ((with_reducible refine gate_dst (N := 2) rfl ?_); refine bx_ 2 24 #[.int .i64 0, .int .i64 0, .int .u64 0] ?_; intro gb114 hg w6 hbox hb; refine nx7_ (blk_below (kU_ BK113.out) hb) (below_step sU_ hb) (hbox) ((hs_ hg (below_size sU_) : w.heap.size ≤ gb114)) ((hs_ hg (below_size sU_) : w.heap.size ≤ gb114)) ((hl_ hg (kU_ BK113.out))) ((hm_ hg (kU_ BK113.out))) ?_; clear BK113 HB; intro BK113 HB BK114 GW114 GE114 NB113_114 NB114_113; clear hb hbox hg; have hnb7 := NB113_114.out; have hnc7 := NB114_113.out; have hcz8_0 := bc0_ BK113.out; have hcz8_1 := bc1_ BK113.out; have hcz8_2 := bc2_ BK113.out; have hfz8_0 := blk_frozen BK113.out 0; have hfz8_1 := blk_frozen BK113.out 1; have hfz8_2 := blk_frozen BK113.out 2) | ((with_reducible refine gate_callee (f := 38) rfl ?_); refine gl_ (some 6) Tryd.func38 #[.agg #[.int .i64 a0_0, .int .i64 a0_1, .int .u64 a0_2]] ?_; (with_reducible refine (code_Valid.calls a0_0 a0_1 a0_2 true _ ?side1 A2.out).mono ?_); (case side1 => repeat (first | with_reducible exact HG.out | with_reducible exact (Fld.below HG.out HB.out) | exact (Fld.below HG.out sU_) | (with_reducible refine Fld.alloc ?_ _) | (with_reducible refine Fld.drewN ?_ _) | (with_reducible refine Fld.drew ?_))); rintro e w9 ⟨rfl, hb⟩; refine ⟨_, rfl, ?_⟩; refine nx3_ (blk_below (kU_ BK113.out) hb) (blk_below (kU_ BK114.out) hb) (below_step sU_ hb) ?_; clear BK113 BK114 HB; intro BK113 BK114 HB; clear hb; have hcz10_0 := bc0_ BK113.out; have hcz10_1 := bc1_ BK113.out; have hcz10_2 := bc2_ BK113.out; have hfz10_0 := blk_frozen BK113.out 0; have hfz10_1 := blk_frozen BK113.out 1; have hfz10_2 := blk_frozen BK113.out 2; have hcz11_0 := bc0_ BK114.out; have hcz11_1 := bc1_ BK114.out; have hcz11_2 := bc2_ BK114.out; have hfz11_0 := blk_frozen BK114.out 0; have hfz11_1 := blk_frozen BK114.out 1; have hfz11_2 := blk_frozen BK114.out 2))
   refine bodyPost_ret (results_ct rfl _ _ gb114 24 #[.int .i64 0, .int .i64 0, .int .u64 0] (0, 0) _ rfl kp_ Tryd.underlying24 rfl (by kernel_rfl)) rfl ?_
   exact ⟨eW_, sU_⟩
  rw [if_neg c4] at H
  have c4b0 := decide_eq_false c4
  clear c4
  revert H
  refine bd_ fun t116 A12 H => ?_
  simp only [Option.some.injEq, Prod.mk.injEq] at H
  obtain ⟨rfl, rfl, rfl, rfl⟩ := H
  go_enter Tryd.func10, Tryd.ntmps10
  try go_wp2_with (first | ((with_reducible refine gate_dst (N := 1) rfl ?_); refine bx_ 1 24 #[.int .i64 a0_0, .int .i64 a0_1, .int .u64 a0_2] ?_; intro gb113 hg w13 hbox hb; refine nx4_ (below_step (bU_ HB.out) hb) (hbox) ((hs_ hg (below_size (bU_ HB.out)))) ((hs_ hg (below_size (bU_ HB.out)))) ?_; clear HB; intro HB BK113 GW113 GE113; clear hb hbox hg) | ((with_reducible refine gate_dst (N := 2) rfl ?_); refine bx_ 2 24 #[.int .i64 0, .int .i64 0, .int .u64 0] ?_; intro gb114 hg w14 hbox hb; refine nx7_ (blk_below (kU_ BK113.out) hb) (below_step sU_ hb) (hbox) ((hs_ hg (below_size sU_) : w.heap.size ≤ gb114)) ((hs_ hg (below_size sU_) : w.heap.size ≤ gb114)) ((hl_ hg (kU_ BK113.out))) ((hm_ hg (kU_ BK113.out))) ?_; clear BK113 HB; intro BK113 HB BK114 GW114 GE114 NB113_114 NB114_113; clear hb hbox hg; have hnb15 := NB113_114.out; have hnc15 := NB114_113.out; have hcz16_0 := bc0_ BK113.out; have hcz16_1 := bc1_ BK113.out; have hcz16_2 := bc2_ BK113.out; have hfz16_0 := blk_frozen BK113.out 0; have hfz16_1 := blk_frozen BK113.out 1; have hfz16_2 := blk_frozen BK113.out 2) | ((with_reducible refine gate_callee (f := 38) rfl ?_); refine gl_ (some 6) Tryd.func38 #[.agg #[.int .i64 a0_0, .int .i64 a0_1, .int .u64 a0_2]] ?_; (with_reducible refine (code_Valid.calls a0_0 a0_1 a0_2 true _ ?side1 A2.out).mono ?_); (case side1 => repeat (first | with_reducible exact HG.out | with_reducible exact (Fld.below HG.out HB.out) | exact (Fld.below HG.out sU_) | (with_reducible refine Fld.alloc ?_ _) | (with_reducible refine Fld.drewN ?_ _) | (with_reducible refine Fld.drew ?_))); rintro e w17 ⟨rfl, hb⟩; refine ⟨_, rfl, ?_⟩; refine nx3_ (blk_below (kU_ BK113.out) hb) (blk_below (kU_ BK114.out) hb) (below_step sU_ hb) ?_; clear BK113 BK114 HB; intro BK113 BK114 HB; clear hb; have hcz18_0 := bc0_ BK113.out; have hcz18_1 := bc1_ BK113.out; have hcz18_2 := bc2_ BK113.out; have hfz18_0 := blk_frozen BK113.out 0; have hfz18_1 := blk_frozen BK113.out 1; have hfz18_2 := blk_frozen BK113.out 2))
  refine nx3_ (blk_drew BK113.out) (blk_drew BK114.out) (below_drew1 HB.out) ?_
  clear BK113 BK114 HB
  intro BK113 BK114 HB
  refine start_ (n := 13) (S := fun w' => w'.cell? ⟨gb113, 0, none⟩ = some (.int .i64 a0_0) ∧ w'.cell? ⟨gb113, 1, none⟩ = some (.int .i64 a0_1) ∧ w'.cell? ⟨gb113, 2, none⟩ = some (.int .u64 a0_2)) (ds := []) (bv 13 0) (by kernel_rfl) rfl rfl ⟨bc0_ BK113.out, bc1_ BK113.out, bc2_ BK113.out⟩ (fun hHeld => ?_); refine with_tabW fold_Next.tab5 fold_Next.bits5 (fun HT_ HW_ => ?_)
  generalize w17.drew = w19 at BK113 BK114 HB hHeld ⊢
  refine pq_ 0 14 13 1 HT_.out ?_
  refine pq_ 2 16 13 5 HT_.out ?_
  refine pq_ 5 19 13 37 HT_.out ?_
  refine pq_ 7 21 13 165 HT_.out ?_
  refine tq_ 1 15 13 167 HT_.out HW_.out hHeld ?_
  refine tq_ 3 17 13 175 HT_.out HW_.out hHeld ?_
  refine pq_ 4 18 13 191 HT_.out ?_
  refine tq_ 6 20 13 255 HT_.out HW_.out hHeld ?_
  refine tq_ 8 22 13 511 HT_.out HW_.out hHeld ?_
  refine oq_ 9 23 13 1023 HT_.out fun K hK => ?_
  refine gs_ Tryd.func41 #[.int .i64 a0_0, .int .u64 a0_2, .int .u64 8] ?_
  with_reducible refine (field_Pow.calls k a0_0 a0_2 8 t116 _ ?side1 A12.out).mono ?_
  (case side1 => repeat (first | with_reducible exact HG.out | with_reducible exact (Fld.below HG.out HB.out) | exact (Fld.below HG.out sU_) | (with_reducible refine Fld.alloc ?_ _) | (with_reducible refine Fld.drewN ?_ _) | (with_reducible refine Fld.drew ?_)))
  rintro e w20 ⟨rfl, hb⟩
  refine ⟨_, rfl, ?_⟩
  refine nx3_ (blk_below (kU_ BK113.out) hb) (blk_below (kU_ BK114.out) hb) (below_step sU_ hb) ?_
  clear BK113 BK114 HB
  intro BK113 BK114 HB
  (try clear hb)
  (try clear hb2)
  (try clear hk)
  (try clear hi)
  refine hK.out _ _ ⟨bc0_ BK113.out, bc1_ BK113.out, bc2_ BK113.out⟩ (fun hHeld => ?_)
  clear hK K
  refine norm_ (a' := ?_) ?_ ?_
  rotate_left
  ·show Act.put _ (some 23) _ = _
   simp only [Act.put, s1_, s2_, s3_, i64_w, i32_w]
   rfl
  refine pq_ 10 24 13 2047 HT_.out ?_
  refine one_ (i := 11) (N := none) (bv 13 4095) rfl rfl (one_of HT_.out (by kernel_rfl)) (by decide) (fun K hK => ?_)
  have hs21 : w20.cell? ⟨gb114, 0, none⟩ = some (.int .i64 0) := bc0_ BK114.out
  have hfs21 := blk_frozen BK114.out 0
  have hns21_0 := NB113_114.out
  have hms21_0 := NB114_113.out
  have hs22 : w20.cell? ⟨gb114, 1, none⟩ = some (.int .i64 0) := bc1_ BK114.out
  have hfs22 := blk_frozen BK114.out 1
  have hns22_0 := NB113_114.out
  have hms22_0 := NB114_113.out
  have hs23 : w20.cell? ⟨gb114, 2, none⟩ = some (.int .u64 0) := bc2_ BK114.out
  have hfs23 := blk_frozen BK114.out 2
  have hns23_0 := NB113_114.out
  have hms23_0 := NB114_113.out
  refine skip_ (w1 := ?_) (by rfl) rfl ?_ ?_
  rotate_left
  ·go_simp
   rfl
  refine hK.out _ _ ⟨((cell_far (p := ⟨gb114, _, none⟩) NB113_114.out _).trans (((cell_far (p := ⟨gb114, _, none⟩) NB113_114.out _).trans (((cell_far (p := ⟨gb114, _, none⟩) NB113_114.out _).trans (hHeld.1)))))), ((cell_far (p := ⟨gb114, _, none⟩) NB113_114.out _).trans (((cell_far (p := ⟨gb114, _, none⟩) NB113_114.out _).trans (((cell_far (p := ⟨gb114, _, none⟩) NB113_114.out _).trans (hHeld.2.1)))))), ((cell_far (p := ⟨gb114, _, none⟩) NB113_114.out _).trans (((cell_far (p := ⟨gb114, _, none⟩) NB113_114.out _).trans (((cell_far (p := ⟨gb114, _, none⟩) NB113_114.out _).trans (hHeld.2.2))))))⟩ (fun hHeld => ?_)
  clear hK K
  refine pq_ 12 3 13 8191 HT_.out ?_
  refine done_ (done_of HT_.out (by kernel_rfl)) ?_
  try go_wp2
  refine bodyPost_ret (results_ct rfl _ _ gb114 24 #[.int .i64 a0_0, .int .i64 (wrap64 (a0_1 - 3)), .int .u64 t116] (0, 0) _ rfl (by (with_reducible repeat (first | refine blk_drewN ?_ _ | refine blk_drew ?_ | refine blk_alloc ?_ _)); refine blk_put (cs := #[.int .i64 a0_0, .int .i64 (wrap64 (a0_1 - 3)), .int .u64 0]) ?_ 2 _ rfl; (with_reducible repeat (first | refine blk_drewN ?_ _ | refine blk_drew ?_ | refine blk_alloc ?_ _)); refine blk_put (cs := #[.int .i64 a0_0, .int .i64 0, .int .u64 0]) ?_ 1 _ rfl; (with_reducible repeat (first | refine blk_drewN ?_ _ | refine blk_drew ?_ | refine blk_alloc ?_ _)); refine blk_put (cs := #[.int .i64 0, .int .i64 0, .int .u64 0]) ?_ 0 _ rfl; (with_reducible repeat (first | refine blk_drewN ?_ _ | refine blk_drew ?_ | refine blk_alloc ?_ _)); exact BK114.out) Tryd.underlying24 rfl (by kernel_rfl)) rfl ?_
  exact ⟨eW_, sU_⟩
 replace c3 := Bool.eq_false_iff.mpr c3
 subst c3
 rw [if_neg (show ¬ (false = true) by decide)] at H
 simp only [Option.some.injEq, Prod.mk.injEq] at H
 obtain ⟨rfl, rfl, rfl, rfl⟩ := H
 go_enter Tryd.func10, Tryd.ntmps10
 go_wp2_with (first | ((with_reducible refine gate_dst (N := 1) rfl ?_); refine bx_ 1 24 #[.int .i64 a0_0, .int .i64 a0_1, .int .u64 a0_2] ?_; intro gb113 hg w24 hbox hb; refine nx4_ (below_step (bU_ HB.out) hb) (hbox) ((hs_ hg (below_size (bU_ HB.out)))) ((hs_ hg (below_size (bU_ HB.out)))) ?_; clear HB; intro HB BK113 GW113 GE113; clear hb hbox hg) | ((with_reducible refine gate_dst (N := 2) rfl ?_); refine bx_ 2 24 #[.int .i64 0, .int .i64 0, .int .u64 0] ?_; intro gb114 hg w25 hbox hb; refine nx7_ (blk_below (kU_ BK113.out) hb) (below_step sU_ hb) (hbox) ((hs_ hg (below_size sU_) : w.heap.size ≤ gb114)) ((hs_ hg (below_size sU_) : w.heap.size ≤ gb114)) ((hl_ hg (kU_ BK113.out))) ((hm_ hg (kU_ BK113.out))) ?_; clear BK113 HB; intro BK113 HB BK114 GW114 GE114 NB113_114 NB114_113; clear hb hbox hg; have hnb26 := NB113_114.out; have hnc26 := NB114_113.out; have hcz27_0 := bc0_ BK113.out; have hcz27_1 := bc1_ BK113.out; have hcz27_2 := bc2_ BK113.out; have hfz27_0 := blk_frozen BK113.out 0; have hfz27_1 := blk_frozen BK113.out 1; have hfz27_2 := blk_frozen BK113.out 2) | ((with_reducible refine gate_callee (f := 38) rfl ?_); refine gl_ (some 6) Tryd.func38 #[.agg #[.int .i64 a0_0, .int .i64 a0_1, .int .u64 a0_2]] ?_; (with_reducible refine (code_Valid.calls a0_0 a0_1 a0_2 false _ ?side1 A2.out).mono ?_); (case side1 => repeat (first | with_reducible exact HG.out | with_reducible exact (Fld.below HG.out HB.out) | exact (Fld.below HG.out sU_) | (with_reducible refine Fld.alloc ?_ _) | (with_reducible refine Fld.drewN ?_ _) | (with_reducible refine Fld.drew ?_))); rintro e w28 ⟨rfl, hb⟩; refine ⟨_, rfl, ?_⟩; refine nx3_ (blk_below (kU_ BK113.out) hb) (blk_below (kU_ BK114.out) hb) (below_step sU_ hb) ?_; clear BK113 BK114 HB; intro BK113 BK114 HB; clear hb; have hcz29_0 := bc0_ BK114.out; have hcz29_1 := bc1_ BK114.out; have hcz29_2 := bc2_ BK114.out; have hfz29_0 := blk_frozen BK114.out 0; have hfz29_1 := blk_frozen BK114.out 1; have hfz29_2 := blk_frozen BK114.out 2))
 refine bodyPost_ret (results_ct rfl _ _ gb114 24 #[.int .i64 0, .int .i64 0, .int .u64 0] (0, 0) _ rfl kp_ Tryd.underlying24 rfl (by kernel_rfl)) rfl ?_
 exact ⟨eW_, sU_⟩

def fold_Rounds.f (a0 : Int) : Option (Int) := some (wrap64 ((mx a0 0) / 3))
set_option maxHeartbeats 8000000 in
set_option maxRecDepth 100000 in
theorem fold_Rounds.calls (a0 : Int) (r : Int) (w : World) (h : fold_Rounds.f a0 = some r) :
  Calls Tryd.prog 12 #[.int .i64 a0] w fun e w' => e = .returned (.int .i64 r) ∧ Below w.heap.size w w' := by
 have HB := ak (Below.refl w.heap.size w)
 have H : (some (wrap64 ((mx a0 0) / 3))) = some r := h
 clear h
 obtain ⟨ji2, hji2⟩ : ∃ j_ : Int, (mx a0 0) = j_ := ⟨_, rfl⟩
 first | rw [hji2] at H | simp only [hji2] at H
 (try (have hji2l : 0 ≤ ji2 := by (rw [← hji2]; unfold mx; (repeat' split) <;> omega)))
 (try (have hji2m : 0 ≤ ji2 := by omega))
 have hji2_ : (if a0 < 0 then 0 else a0) = ji2 := hji2
 obtain rfl := Option.some.inj H
 go_enter Tryd.func12, Tryd.ntmps12
 go_wp2
 go_ret
 exact ⟨by first | (rw [Int.tdiv_eq_ediv_of_nonneg (by omega)]; done) | (rw [Int.tdiv_eq_ediv_of_nonneg (by omega)]; rfl) | rfl | (simp [errW_none, errW_some] <;> rfl) | (simp only [← hji2]; first | rfl | (simp [errW_none, errW_some] <;> rfl)) | (simp [*, errW_none, errW_some] <;> rfl), bU_ HB.out⟩

def field_Reduce.f (a0 : Int) (a1 : Int) : Option (Int) := (field_Valid.f a0).bind fun t132 => (if t132 = true then ((field_P.f a0).bind fun t133 => (if t133 = 0 then (none) else (some (Int.tmod a1 t133)))) else (some 0))
set_option maxHeartbeats 8000000 in
set_option maxRecDepth 100000 in
theorem field_Reduce.calls (a0 : Int) (a1 : Int) (r : Int) (w : World) (hG : Fld w) (h : field_Reduce.f a0 a1 = some r) :
  Calls Tryd.prog 22 #[.int .i64 a0, .int .u64 a1] w fun e w' => e = .returned (.int .u64 r) ∧ Below w.heap.size w w' := by
 have HG := ak hG
 clear hG
 have HB := ak (Below.refl w.heap.size w)
 have H := h
 clear h
 unfold field_Reduce.f at H
 revert H
 refine bd_ fun t132 A3 H => ?_
 by_cases c4 : t132 = true
 ·subst c4
  rw [if_pos rfl] at H
  revert H
  refine bd_ fun t133 A5 H => ?_
  by_cases c6 : t133 = 0
  ·rw [if_pos c6] at H
   exact absurd H (by simp)
  rw [if_neg c6] at H
  have c6b0 := beq_eq_false_iff_ne.mpr c6
  have c6b1 := bne_iff_ne.mpr c6
  obtain rfl := Option.some.inj H
  go_enter Tryd.func22, Tryd.ntmps22
  go_wp2_with (first | ((with_reducible refine gate_callee (f := 54) rfl ?_); refine gl_ (some 6) Tryd.func54 #[.int .i64 a0] ?_; (with_reducible refine (field_Valid.calls a0 true _ A3.out).mono ?_); rintro e w' ⟨rfl, ⟨nd, rfl⟩⟩; refine ⟨_, rfl, ?_⟩) | ((with_reducible refine gate_callee (f := 52) rfl ?_); refine gl_ (some 10) Tryd.func52 #[.int .i64 a0] ?_; (with_reducible refine (field_P.calls a0 t133 _ ?side1 A5.out).mono ?_); (case side1 => exact fU_ HG.out HB.out); rintro e w7 ⟨rfl, hb⟩; refine ⟨_, rfl, ?_⟩; refine nx1_ (below_step (bU_ HB.out) hb) ?_; clear HB; intro HB; clear hb))
  go_ret
  exact ⟨eW_, bU_ HB.out⟩
 replace c4 := Bool.eq_false_iff.mpr c4
 subst c4
 rw [if_neg (show ¬ (false = true) by decide)] at H
 obtain rfl := Option.some.inj H
 go_enter Tryd.func22, Tryd.ntmps22
 go_wp2_with (first | ((with_reducible refine gate_callee (f := 54) rfl ?_); refine gl_ (some 6) Tryd.func54 #[.int .i64 a0] ?_; (with_reducible refine (field_Valid.calls a0 false _ A3.out).mono ?_); rintro e w' ⟨rfl, ⟨nd, rfl⟩⟩; refine ⟨_, rfl, ?_⟩))
 go_ret
 exact ⟨eW_, bU_ HB.out⟩

def code_Size.f (a0_0 : Int) (a0_1 : Int) (a0_2 : Int) : Option (Int) := (code_Valid.f a0_0 a0_1 a0_2).bind fun t135 => (if t135 = true then (if 0 ≤ a0_1 then (some (shl .i64 1 a0_1)) else (none)) else (some 0))
set_option maxHeartbeats 8000000 in
set_option maxRecDepth 100000 in
theorem code_Size.calls (a0_0 : Int) (a0_1 : Int) (a0_2 : Int) (r : Int) (w : World) (hG : Fld w) (h : code_Size.f a0_0 a0_1 a0_2 = some r) :
  Calls Tryd.prog 33 #[.agg #[.int .i64 a0_0, .int .i64 a0_1, .int .u64 a0_2]] w fun e w' => e = .returned (.int .i64 r) ∧ Below w.heap.size w w' := by
 have hu24 := Tryd.underlying24
 have HG := ak hG
 clear hG
 have HB := ak (Below.refl w.heap.size w)
 have H := h
 clear h
 unfold code_Size.f at H
 revert H
 refine bd_ fun t135 A2 H => ?_
 by_cases c3 : t135 = true
 ·subst c3
  rw [if_pos rfl] at H
  obtain ⟨c4, H⟩ : (0 ≤ a0_1) ∧ _ := it_ H
  have c4b0 := eq_true c4
  have c4b1 := decide_eq_true c4
  clear c4
  obtain ⟨ji5, hji5⟩ : ∃ j_ : Int, (shl .i64 1 a0_1) = j_ := ⟨_, rfl⟩
  first | rw [hji5] at H | simp only [hji5] at H
  (try rw [hji5] at A2)
  have hji5_ : (IntKind.i64.wrap (1 * 2 ^ min a0_1.toNat 64)) = ji5 := hji5
  have hji5z : a0_1 ≤ 64 → (IntKind.i64.wrap (1 * 2 ^ a0_1.toNat)) = ji5 := shl_small hji5
  have hji5u : (IntKind.i64.wrap (2 ^ min a0_1.toNat 64)) = ji5 := by have h_ := hji5_; rw [Int.one_mul] at h_; exact h_
  have hji5v : a0_1 ≤ 64 → (IntKind.i64.wrap (2 ^ a0_1.toNat)) = ji5 := fun hle_ => by have h_ := hji5z hle_; rw [Int.one_mul] at h_; exact h_
  have hji5y : (wrap64 (1 * 2 ^ min a0_1.toNat 64)) = ji5 := (i64_w _).symm.trans hji5_
  have hji5x : a0_1 ≤ 64 → (wrap64 (1 * 2 ^ a0_1.toNat)) = ji5 := fun h_ => (i64_w _).symm.trans (hji5z h_)
  obtain rfl := Option.some.inj H
  go_enter Tryd.func33, Tryd.ntmps33
  go_wp2_with (first | ((with_reducible refine gate_dst (N := 1) rfl ?_); refine bx_ 1 24 #[.int .i64 a0_0, .int .i64 a0_1, .int .u64 a0_2] ?_; intro gb134 hg w6 hbox hb; refine nx4_ (below_step (bU_ HB.out) hb) (hbox) ((hs_ hg (below_size (bU_ HB.out)))) ((hs_ hg (below_size (bU_ HB.out)))) ?_; clear HB; intro HB BK134 GW134 GE134; clear hb hbox hg; have hcz7_0 := bc0_ BK134.out; have hcz7_1 := bc1_ BK134.out; have hcz7_2 := bc2_ BK134.out; have hfz7_0 := blk_frozen BK134.out 0; have hfz7_1 := blk_frozen BK134.out 1; have hfz7_2 := blk_frozen BK134.out 2) | ((with_reducible refine gate_callee (f := 38) rfl ?_); refine gl_ (some 4) Tryd.func38 #[.agg #[.int .i64 a0_0, .int .i64 a0_1, .int .u64 a0_2]] ?_; (with_reducible refine (code_Valid.calls a0_0 a0_1 a0_2 true _ ?side1 A2.out).mono ?_); (case side1 => repeat (first | with_reducible exact HG.out | with_reducible exact (Fld.below HG.out HB.out) | exact (Fld.below HG.out sU_) | (with_reducible refine Fld.alloc ?_ _) | (with_reducible refine Fld.drewN ?_ _) | (with_reducible refine Fld.drew ?_))); rintro e w8 ⟨rfl, hb⟩; refine ⟨_, rfl, ?_⟩; refine nx2_ (blk_below (kU_ BK134.out) hb) (below_step sU_ hb) ?_; clear BK134 HB; intro BK134 HB; clear hb; have hcz9_0 := bc0_ BK134.out; have hcz9_1 := bc1_ BK134.out; have hcz9_2 := bc2_ BK134.out; have hfz9_0 := blk_frozen BK134.out 0; have hfz9_1 := blk_frozen BK134.out 1; have hfz9_2 := blk_frozen BK134.out 2))
  go_ret
  exact ⟨by first | rfl | (simp [errW_none, errW_some] <;> rfl) | (simp only [← hji5]; first | rfl | (simp [errW_none, errW_some] <;> rfl)) | (simp [*, errW_none, errW_some] <;> rfl), sU_⟩
 replace c3 := Bool.eq_false_iff.mpr c3
 subst c3
 rw [if_neg (show ¬ (false = true) by decide)] at H
 obtain rfl := Option.some.inj H
 go_enter Tryd.func33, Tryd.ntmps33
 go_wp2_with (first | ((with_reducible refine gate_dst (N := 1) rfl ?_); refine bx_ 1 24 #[.int .i64 a0_0, .int .i64 a0_1, .int .u64 a0_2] ?_; intro gb134 hg w10 hbox hb; refine nx4_ (below_step (bU_ HB.out) hb) (hbox) ((hs_ hg (below_size (bU_ HB.out)))) ((hs_ hg (below_size (bU_ HB.out)))) ?_; clear HB; intro HB BK134 GW134 GE134; clear hb hbox hg; have hcz11_0 := bc0_ BK134.out; have hcz11_1 := bc1_ BK134.out; have hcz11_2 := bc2_ BK134.out; have hfz11_0 := blk_frozen BK134.out 0; have hfz11_1 := blk_frozen BK134.out 1; have hfz11_2 := blk_frozen BK134.out 2) | ((with_reducible refine gate_callee (f := 38) rfl ?_); refine gl_ (some 4) Tryd.func38 #[.agg #[.int .i64 a0_0, .int .i64 a0_1, .int .u64 a0_2]] ?_; (with_reducible refine (code_Valid.calls a0_0 a0_1 a0_2 false _ ?side1 A2.out).mono ?_); (case side1 => repeat (first | with_reducible exact HG.out | with_reducible exact (Fld.below HG.out HB.out) | exact (Fld.below HG.out sU_) | (with_reducible refine Fld.alloc ?_ _) | (with_reducible refine Fld.drewN ?_ _) | (with_reducible refine Fld.drew ?_))); rintro e w12 ⟨rfl, hb⟩; refine ⟨_, rfl, ?_⟩; refine nx2_ (blk_below (kU_ BK134.out) hb) (below_step sU_ hb) ?_; clear BK134 HB; intro BK134 HB; clear hb))
 go_ret
 exact ⟨eW_, sU_⟩

def code_isWord.f (a0_0 : Int) (a0_1 : Int) (a0_2 : Int) (l1 : List Int) : Option (Bool) := (code_Valid.f a0_0 a0_1 a0_2).bind fun t137 => (if t137 = true then ((code_Size.f a0_0 a0_1 a0_2).bind fun t138 => (some ((l1.length : Int) == t138))) else (some false))
set_option maxHeartbeats 8000000 in
set_option maxRecDepth 100000 in
theorem code_isWord.calls (a0_0 : Int) (a0_1 : Int) (a0_2 : Int) (A1 : Option Addr) (c1 : Nat) (l1 : List Int) (r : Bool) (w : World) (hG : Fld w) (hr1 : Kd.C (Kd.int .u64) w A1 l1.length l1) (hc1 : l1.length ≤ c1) (h : code_isWord.f a0_0 a0_1 a0_2 l1 = some r) :
  Calls Tryd.prog 55 #[.agg #[.int .i64 a0_0, .int .i64 a0_1, .int .u64 a0_2], .slice A1 l1.length c1] w fun e w' => e = .returned (.bool r) ∧ Below w.heap.size w w' := by
 have hu24 := Tryd.underlying24
 have HG := ak hG
 clear hG
 have HR1 := ak hr1
 have HC1 := ak hc1
 clear hr1 hc1
 have HB := ak (Below.refl w.heap.size w)
 have H := h
 clear h
 unfold code_isWord.f at H
 revert H
 refine bd_ fun t137 A3 H => ?_
 by_cases c4 : t137 = true
 ·subst c4
  rw [if_pos rfl] at H
  revert H
  refine bd_ fun t138 A5 H => ?_
  obtain rfl := Option.some.inj H
  go_enter Tryd.func55, Tryd.ntmps55
  go_wp2_with (first | ((with_reducible refine gate_dst (N := 2) rfl ?_); (try (refine gate_guard (by rfl) ?_; dsimp only)); refine bx_ 2 24 #[.int .i64 a0_0, .int .i64 a0_1, .int .u64 a0_2] ?_; intro gb136 hg w6 hbox hb; refine nx4_ (below_step (bU_ HB.out) hb) (hbox) ((hs_ hg (below_size (bU_ HB.out)))) ((hs_ hg (below_size (bU_ HB.out)))) ?_; clear HB; intro HB BK136 GW136 GE136; clear hb hbox hg; have hcz7_0 := bc0_ BK136.out; have hcz7_1 := bc1_ BK136.out; have hcz7_2 := bc2_ BK136.out; have hfz7_0 := blk_frozen BK136.out 0; have hfz7_1 := blk_frozen BK136.out 1; have hfz7_2 := blk_frozen BK136.out 2) | ((with_reducible refine gate_callee (f := 38) rfl ?_); refine gl_ (some 6) Tryd.func38 #[.agg #[.int .i64 a0_0, .int .i64 a0_1, .int .u64 a0_2]] ?_; (with_reducible refine (code_Valid.calls a0_0 a0_1 a0_2 true _ ?side1 A3.out).mono ?_); (case side1 => repeat (first | with_reducible exact HG.out | with_reducible exact (Fld.below HG.out HB.out) | exact (Fld.below HG.out sU_) | (with_reducible refine Fld.alloc ?_ _) | (with_reducible refine Fld.drewN ?_ _) | (with_reducible refine Fld.drew ?_))); rintro e w8 ⟨rfl, hb⟩; refine ⟨_, rfl, ?_⟩; refine nx2_ (blk_below (kU_ BK136.out) hb) (below_step sU_ hb) ?_; clear BK136 HB; intro BK136 HB; clear hb; have hcz9_0 := bc0_ BK136.out; have hcz9_1 := bc1_ BK136.out; have hcz9_2 := bc2_ BK136.out; have hfz9_0 := blk_frozen BK136.out 0; have hfz9_1 := blk_frozen BK136.out 1; have hfz9_2 := blk_frozen BK136.out 2) | (go_at_call 33; (with_reducible refine (code_Size.calls a0_0 a0_1 a0_2 t138 _ ?side1 A5.out).mono ?_); (case side1 => repeat (first | with_reducible exact HG.out | with_reducible exact (Fld.below HG.out HB.out) | exact (Fld.below HG.out sU_) | (with_reducible refine Fld.alloc ?_ _) | (with_reducible refine Fld.drewN ?_ _) | (with_reducible refine Fld.drew ?_))); rintro e w10 ⟨rfl, hb⟩; refine nx2_ (blk_below (kU_ BK136.out) hb) (below_step sU_ hb) ?_; clear BK136 HB; intro BK136 HB; clear hb))
  go_ret
  exact ⟨eW_, sU_⟩
 replace c4 := Bool.eq_false_iff.mpr c4
 subst c4
 rw [if_neg (show ¬ (false = true) by decide)] at H
 obtain rfl := Option.some.inj H
 go_enter Tryd.func55, Tryd.ntmps55
 go_wp2_with (first | ((with_reducible refine gate_dst (N := 2) rfl ?_); (try (refine gate_guard (by rfl) ?_; dsimp only)); refine bx_ 2 24 #[.int .i64 a0_0, .int .i64 a0_1, .int .u64 a0_2] ?_; intro gb136 hg w11 hbox hb; refine nx4_ (below_step (bU_ HB.out) hb) (hbox) ((hs_ hg (below_size (bU_ HB.out)))) ((hs_ hg (below_size (bU_ HB.out)))) ?_; clear HB; intro HB BK136 GW136 GE136; clear hb hbox hg; have hcz12_0 := bc0_ BK136.out; have hcz12_1 := bc1_ BK136.out; have hcz12_2 := bc2_ BK136.out; have hfz12_0 := blk_frozen BK136.out 0; have hfz12_1 := blk_frozen BK136.out 1; have hfz12_2 := blk_frozen BK136.out 2) | ((with_reducible refine gate_callee (f := 38) rfl ?_); refine gl_ (some 6) Tryd.func38 #[.agg #[.int .i64 a0_0, .int .i64 a0_1, .int .u64 a0_2]] ?_; (with_reducible refine (code_Valid.calls a0_0 a0_1 a0_2 false _ ?side1 A3.out).mono ?_); (case side1 => repeat (first | with_reducible exact HG.out | with_reducible exact (Fld.below HG.out HB.out) | exact (Fld.below HG.out sU_) | (with_reducible refine Fld.alloc ?_ _) | (with_reducible refine Fld.drewN ?_ _) | (with_reducible refine Fld.drew ?_))); rintro e w13 ⟨rfl, hb⟩; refine ⟨_, rfl, ?_⟩; refine nx2_ (blk_below (kU_ BK136.out) hb) (below_step sU_ hb) ?_; clear BK136 HB; intro BK136 HB; clear hb))
 go_ret
 exact ⟨eW_, sU_⟩

def field_Root.f (k : Nat) (a0 : Int) (a1 : Int) : Option (Int) := if pOf a0 = 0 then some 0 else if a1 < 0 then some 0 else if a1 > tOf a0 then some 0 else field_Pow.f k a0 (gOf a0) (IntKind.u64.wrap (pOf a0 - 1) / 2 ^ min a1.toNat 64)
set_option maxHeartbeats 8000000 in
set_option maxRecDepth 100000 in
theorem field_Root.calls (k : Nat) (a0 a1 : Int) (r : Int) (w : World) (hG : Fld w) (h : field_Root.f k a0 a1 = some r) :
  Calls Tryd.prog 60 #[.int .i64 a0, .int .i64 a1] w fun e w' => e = .returned (.int .u64 r) ∧ Below w.heap.size w w' := by
 have HG := ak hG
 clear hG
 have H := ak h
 clear h
 by_cases c0 : pOf a0 = 0
 ·have c0b : (pOf a0 == 0) = true := by simpa using c0
  have e : r = 0 := by
   have := H.out
   unfold field_Root.f at this
   rw [if_pos c0] at this; exact (Option.some.inj this).symm
  subst e
  go_enter Tryd.func60, Tryd.ntmps60
  go_wp2_with (go_at_call 77; (with_reducible refine (of_any a0 _ HG.out).mono ?_); rintro e w' ⟨va, vn, vc, rfl, hb⟩)
  go_ret
  exact ⟨rfl, bU_ hb⟩
 have c0b : (pOf a0 == 0) = false := by simpa using c0
 by_cases c1 : a1 < 0
 ·have c1b : decide (a1 < 0) = true := by simpa using c1
  have e : r = 0 := by
   have := H.out
   unfold field_Root.f at this
   rw [if_neg c0, if_pos c1] at this; exact (Option.some.inj this).symm
  subst e
  go_enter Tryd.func60, Tryd.ntmps60
  go_wp2_with (go_at_call 77; (with_reducible refine (of_any a0 _ HG.out).mono ?_); rintro e w' ⟨va, vn, vc, rfl, hb⟩)
  go_ret
  exact ⟨rfl, bU_ hb⟩
 by_cases c2 : a1 > tOf a0
 ·have c1b : decide (a1 < 0) = false := by simpa using c1
  have c2b : decide (tOf a0 < a1) = true := by simpa using c2
  have e : r = 0 := by
   have := H.out
   unfold field_Root.f at this
   rw [if_neg c0, if_neg c1, if_pos c2] at this; exact (Option.some.inj this).symm
  subst e
  go_enter Tryd.func60, Tryd.ntmps60
  go_wp2_with (go_at_call 77; (with_reducible refine (of_any a0 _ HG.out).mono ?_); rintro e w' ⟨va, vn, vc, rfl, hb⟩)
  go_ret
  exact ⟨rfl, bU_ hb⟩
 have c1b : decide (a1 < 0) = false := by simpa using c1
 have c2b : decide (tOf a0 < a1) = false := by simpa using c2
 go_enter Tryd.func60, Tryd.ntmps60
 go_wp2_with (go_at_call 77; (with_reducible refine (of_any a0 _ HG.out).mono ?_); rintro e w' ⟨va, vn, vc, rfl, hb⟩)
 have hA : Below w.heap.size w (w'.alloc (Obj.cells #[.int .u64 (pOf a0), .int .u64 (gOf a0), .int .i64 (tOf a0), .int .i64 (xOf a0), .slice va vn vc] 76)) := below_alloc hb _
 have g0 : (w'.alloc (Obj.cells #[.int .u64 (pOf a0), .int .u64 (gOf a0), .int .i64 (tOf a0), .int .i64 (xOf a0), .slice va vn vc] 76)).cell? ⟨w'.heap.size, 0, none⟩ = some (.int .u64 (pOf a0)) := by go_simp
 have g1 : (w'.alloc (Obj.cells #[.int .u64 (pOf a0), .int .u64 (gOf a0), .int .i64 (tOf a0), .int .i64 (xOf a0), .slice va vn vc] 76)).cell? ⟨w'.heap.size, 1, none⟩ = some (.int .u64 (gOf a0)) := by go_simp
 generalize w'.alloc (Obj.cells #[.int .u64 (pOf a0), .int .u64 (gOf a0), .int .i64 (tOf a0), .int .i64 (xOf a0), .slice va vn vc] 76) = wA at *
 generalize w'.heap.size = B at *
 clear hb
 refine start_ (n := 10) (S := fun w' => w'.cell? ⟨B, 0, none⟩ = some (.int .u64 (pOf a0)) ∧ w'.cell? ⟨B, 1, none⟩ = some (.int .u64 (gOf a0))) (ds := []) (bv 10 0) (by kernel_rfl) rfl rfl ⟨g0, g1⟩ (fun hHeld => ?_)
 have HB := ak (below_drew1 hA)
 clear hA g0 g1
 generalize wA.drew = w9 at HB hHeld ⊢
 have HT_ : Aside0 (rtab .any (opsOf Tryd.f60 4) = rtab .any (opsOf Tryd.f60 4)) := ⟨rfl⟩
 refine pq_ 0 21 10 1 HT_.out ?_
 refine pq_ 1 22 10 3 HT_.out ?_
 refine take_ (i := 2) (N := some 23) (v := ?_) (a' := ?_) (bv 10 7) rfl rfl (take_of HT_.out (by kernel_rfl)) (fun _ _ _ h => h) (Or.inl ⟨by rfl, ?_⟩) hHeld ?_ ?_
 rotate_left
 ·rintro w' ⟨s0, s1⟩
  go_simp
  with_reducible rfl
 rotate_left
 ·simp only [Act.put, s1_, s2_, s3_, i64_w, i32_w]
  rfl
 refine pq_ 3 24 10 15 HT_.out ?_
 refine take_ (i := 4) (N := some 25) (v := ?_) (a' := ?_) (bv 10 31) rfl rfl (take_of HT_.out (by kernel_rfl)) (fun _ _ _ h => h) (Or.inl ⟨by rfl, ?_⟩) hHeld ?_ ?_
 rotate_left
 ·rintro w' ⟨s0, s1⟩
  go_simp
  with_reducible rfl
 rotate_left
 ·simp only [Act.put, s1_, s2_, s3_, i64_w, i32_w]
  rfl
 refine pq_ 5 26 10 63 HT_.out ?_
 refine pq_ 6 27 10 127 HT_.out ?_
 refine pq_ 7 28 10 255 HT_.out ?_
 have h8 : field_Pow.f k a0 (gOf a0) (IntKind.u64.wrap (pOf a0 - 1) / 2 ^ min a1.toNat 64) = some r := by
  have := H.out
  unfold field_Root.f at this
  rwa [if_neg c0, if_neg (by omega), if_neg (by omega)] at this
 refine oq_ 8 29 10 511 HT_.out fun K hK => ?_
 refine gs_ Tryd.func41 #[.int .i64 a0, .int .u64 (gOf a0), .int .u64 (IntKind.u64.wrap (pOf a0 - 1) / 2 ^ min a1.toNat 64)] ?_
 with_reducible refine (field_Pow.calls k a0 (gOf a0) (IntKind.u64.wrap (pOf a0 - 1) / 2 ^ min a1.toNat 64) r _ ?side1 h8).mono ?_
 (case side1 => exact fU_ HG.out HB.out)
 rintro e w11 ⟨rfl, hb⟩
 refine ⟨_, rfl, ?_⟩
 refine nx1_ (below_step (bU_ HB.out) hb) ?_
 clear HB
 intro HB
 refine hK.out _ _ ⟨(hb.cell (World.block_lt_of_cell? _ _ hHeld.1)).trans hHeld.1, (hb.cell (World.block_lt_of_cell? _ _ hHeld.2)).trans hHeld.2⟩ (fun hHeld => ?_)
 clear hK K hb
 refine norm_ (a' := ?_) ?_ ?_
 rotate_left
 ·show Act.put _ (some 29) _ = _
  simp only [Act.put, s1_, s2_, s3_, i64_w, i32_w]
  rfl
 refine pq_ 9 4 10 1023 HT_.out ?_
 refine done_ (done_of HT_.out (by kernel_rfl)) ?_
 try go_wp2
 go_ret
 exact ⟨rfl, bU_ HB.out⟩
theorem field_Root.mono : ∀ a0 a1 k, LeO (field_Root.f k a0 a1) (field_Root.f (k + 1) a0 a1) := by
 intro a0 a1 k
 unfold field_Root.f
 exact LeO.ite (LeO.refl _) (LeO.ite (LeO.refl _) (LeO.ite (LeO.refl _) (field_Pow.mono _ _ _ _)))

def code_Point.j0 : Nat → Int → Bool → Int → Int → Int → Option (Int)
 | 0, _, _, _, _, _ => none
 | k + 1, x1, x12, x140000, x140001, x140002 => if x12 = true then (some 0) else ((field_Root.f k x140000 x140001).bind fun t141 => ((field_Pow.f k x140000 t141 (IntKind.u64.wrap (x1))).bind fun t142 => ((field_Mul.f x140000 x140002 t142).bind fun t143 => (some t143))))
def code_Point.f (k : Nat) (a0_0 : Int) (a0_1 : Int) (a0_2 : Int) (a1 : Int) : Option (Int) := if a1 < 0 then (code_Point.j0 k a1 true a0_0 a0_1 a0_2) else ((code_Size.f a0_0 a0_1 a0_2).bind fun t140 => (code_Point.j0 k a1 (decide (a1 ≥ t140)) a0_0 a0_1 a0_2))
theorem code_Point.mono_l : ∀ k, (∀ y0 y1 y2 y3 y4, LeO (code_Point.j0 k y0 y1 y2 y3 y4) (code_Point.j0 (k + 1) y0 y1 y2 y3 y4))
 | 0 => fun _ _ _ _ _ r h => by simp [code_Point.j0] at h
 | k + 1 => by
  have ih0 := code_Point.mono_l k
  ·intro y0 y1 y2 y3 y4
   unfold code_Point.j0
   with_reducible repeat' first | apply ih0 | apply field_Pow.mono | apply field_Root.mono | exact LeO.refl _ | exact LeO.none _ | refine LeO.ite ?_ ?_ | refine LeO.bind ?_ (fun _ => ?_)
theorem code_Point.mono : ∀ a0 a1 a2 a3 k, LeO (code_Point.f k a0 a1 a2 a3) (code_Point.f (k + 1) a0 a1 a2 a3) := by
 intro a0 a1 a2 a3 k
 have ih0 := code_Point.mono_l k
 unfold code_Point.f
 with_reducible repeat' first | apply ih0 | apply field_Pow.mono | apply field_Root.mono | exact LeO.refl _ | exact LeO.none _ | refine LeO.ite ?_ ?_ | refine LeO.bind ?_ (fun _ => ?_)
def code_Point.T3 : Bool × List (List Nat × List Nat) := (true, [([], []), ([0], [0]), ([], []), ([2], [2]), ([], []), ([4], [4]), ([], []), ([6], [6]), ([], []), ([8], [8]), ([7, 9], [7, 9]), ([], []), ([11], [11]), ([5, 10, 12, 10], [5, 10, 12]), ([1, 3, 13, 13], [1, 3, 13]), ([14, 14, 0, 1, 2, 3, 4, 5, 6, 7, 8, 9, 10, 11, 12, 13, 14], [14])])
def code_Point.B3 : List Nat := [0, 1, 0, 4, 0, 16, 0, 64, 0, 256, 960, 0, 2048, 8176, 16383, 32767]
theorem code_Point.tab3 : rtab .any (opsOf Tryd.f34 3) = code_Point.T3 := by kernel_rfl
theorem code_Point.bits3 : waitsOk code_Point.T3.2 code_Point.B3 = true := by kernel_rfl
set_option maxHeartbeats 8000000 in
set_option maxRecDepth 100000 in
theorem code_Point.calls (k : Nat) (a0_0 : Int) (a0_1 : Int) (a0_2 : Int) (a1 : Int) (r : Int) (w : World) (hG : Fld w) (h : code_Point.f k a0_0 a0_1 a0_2 a1 = some r) :
  Calls Tryd.prog 34 #[.agg #[.int .i64 a0_0, .int .i64 a0_1, .int .u64 a0_2], .int .i64 a1] w fun e w' => e = .returned (.int .u64 r) ∧ Below w.heap.size w w' := by
 have hu24 := Tryd.underlying24
 have HG := ak hG
 clear hG
 have HB := ak (Below.refl w.heap.size w)
 have H := h
 clear h
 unfold code_Point.f at H
 have HC3 := ak H
 clear H
 go_enter Tryd.func34, Tryd.ntmps34
 go_upto_region 1 with (first | ((with_reducible refine gate_dst (N := 2) rfl ?_); refine bx_ 2 24 #[.int .i64 a0_0, .int .i64 a0_1, .int .u64 a0_2] ?_; intro gb139 hg w4 hbox hb; refine nx4_ (below_step (bU_ HB.out) hb) (hbox) ((hs_ hg (below_size (bU_ HB.out)))) ((hs_ hg (below_size (bU_ HB.out)))) ?_; clear HB; intro HB BK139 GW139 GE139; clear hb hbox hg))
 (try simp only [Act.put, s1_, s2_, s3_])
 go_cut [12] (fun v12 wc => ∃ (kq : Nat) (x12_2 : Bool), v12 = .bool x12_2 ∧ Aside0 (code_Point.j0 kq a1 x12_2 a0_0 a0_1 a0_2 = some r) ∧ Aside0 (kq ≤ k) ∧ Aside0 (wc.heap[gb139]? = some (.cells #[.int .i64 a0_0, .int .i64 a0_1, .int .u64 a0_2] 24 (0, 0))) ∧ Aside0 (Below w.heap.size w wc))
 case first =>
  have H := HC3.out
  clear HC3
  by_cases c5 : a1 < 0
  ·rw [if_pos c5] at H
   have c5b0 := decide_eq_true c5
   clear c5
   (first | rw [c5b0] | (simp only [i64_w, i32_w]; rw [c5b0]) | rw [c5b1] | skip)
   have H' := ak H
   clear H
   go_wp2
   go_meet
   case rel => exact ⟨_, (true), gb_, H', ⟨by first | omega | exact Nat.le_refl _⟩, ⟨by (with_reducible repeat (first | refine blk_drewN ?_ _ | refine blk_drew ?_ | refine blk_alloc ?_ _)); exact BK139.out⟩, ⟨sU_⟩⟩
  rw [if_neg c5] at H
  have c5b0 := decide_eq_false c5
  clear c5
  (first | rw [c5b0] | (simp only [i64_w, i32_w]; rw [c5b0]) | rw [c5b1] | skip)
  revert H
  refine bd_ fun t140 A6 H => ?_
  have H' := ak H
  clear H
  have hcz7_0 := bc0_ BK139.out
  have hcz7_1 := bc1_ BK139.out
  have hcz7_2 := bc2_ BK139.out
  have hfz7_0 := blk_frozen BK139.out 0
  have hfz7_1 := blk_frozen BK139.out 1
  have hfz7_2 := blk_frozen BK139.out 2
  go_wp2_with (first | (go_at_call 33; (with_reducible refine (code_Size.calls a0_0 a0_1 a0_2 t140 _ ?side1 A6.out).mono ?_); (case side1 => repeat (first | with_reducible exact HG.out | with_reducible exact (Fld.below HG.out HB.out) | exact (Fld.below HG.out sU_) | (with_reducible refine Fld.alloc ?_ _) | (with_reducible refine Fld.drewN ?_ _) | (with_reducible refine Fld.drew ?_))); rintro e w8 ⟨rfl, hb⟩; refine nx2_ (blk_below (kU_ BK139.out) hb) (below_step sU_ hb) ?_; clear BK139 HB; intro BK139 HB; clear hb))
  go_meet
  case rel => exact ⟨_, (decide (a1 ≥ t140)), gb_, H', ⟨by first | omega | exact Nat.le_refl _⟩, ⟨by (with_reducible repeat (first | refine blk_drewN ?_ _ | refine blk_drew ?_ | refine blk_alloc ?_ _)); exact BK139.out⟩, ⟨sU_⟩⟩
 case rest =>
  clear HC3
  (try clear p2); (try clear c3); (try clear c5); (try clear c5b0); (try clear c5b1); (try clear hcz7_0); (try clear hcz7_1); (try clear hcz7_2); (try clear hfz7_0); (try clear hfz7_1); (try clear hfz7_2)
  obtain ⟨kq, x12_2, rfl, HA, HJ2, BK139, HB⟩ := hcut
  cases kq with
  | zero => exact absurd HA.out (by simp [code_Point.j0])
  | succ kj2 =>
   have H := HA.out
   clear HA
   simp only [code_Point.j0] at H
   by_cases c9 : x12_2 = true
   ·subst c9
    rw [if_pos rfl] at H
    obtain rfl := Option.some.inj H
    go_wp2
    go_ret
    exact ⟨eW_, sU_⟩
   replace c9 := Bool.eq_false_iff.mpr c9
   subst c9
   rw [if_neg (show ¬ (false = true) by decide)] at H
   revert H
   refine bd_ fun t141 A10 H => ?_
   revert H
   refine bd_ fun t142 A11 H => ?_
   revert H
   refine bd_ fun t143 A12 H => ?_
   obtain rfl := Option.some.inj H
   try go_wp2
   refine nx2_ (blk_drew BK139.out) (below_drew1 HB.out) ?_
   clear BK139 HB
   intro BK139 HB
   refine start_ (n := 16) (S := fun w' => w'.cell? ⟨gb139, 0, none⟩ = some (.int .i64 a0_0) ∧ w'.cell? ⟨gb139, 1, none⟩ = some (.int .i64 a0_1) ∧ w'.cell? ⟨gb139, 2, none⟩ = some (.int .u64 a0_2)) (ds := []) (bv 16 0) (by kernel_rfl) rfl rfl ⟨bc0_ BK139.out, bc1_ BK139.out, bc2_ BK139.out⟩ (fun hHeld => ?_); refine with_tabW code_Point.tab3 code_Point.bits3 (fun HT_ HW_ => ?_)
   generalize wc.drew = w13 at BK139 HB hHeld ⊢
   refine pq_ 0 13 16 1 HT_.out ?_
   refine pq_ 2 15 16 5 HT_.out ?_
   refine pq_ 4 17 16 21 HT_.out ?_
   refine pq_ 6 19 16 85 HT_.out ?_
   refine pq_ 8 21 16 341 HT_.out ?_
   refine pq_ 11 24 16 2389 HT_.out ?_
   refine pq_ 12 25 16 6485 HT_.out ?_
   refine tq_ 1 14 16 6487 HT_.out HW_.out hHeld ?_
   refine tq_ 3 16 16 6495 HT_.out HW_.out hHeld ?_
   refine tq_ 5 18 16 6527 HT_.out HW_.out hHeld ?_
   refine tq_ 7 20 16 6655 HT_.out HW_.out hHeld ?_
   refine tq_ 9 22 16 7167 HT_.out HW_.out hHeld ?_
   refine oq_ 10 23 16 8191 HT_.out fun K hK => ?_
   refine gs_ Tryd.func60 #[.int .i64 a0_0, .int .i64 a0_1] ?_
   with_reducible refine (field_Root.calls kj2 a0_0 a0_1 t141 _ ?side1 A10.out).mono ?_
   (case side1 => repeat (first | with_reducible exact HG.out | with_reducible exact (Fld.below HG.out HB.out) | exact (Fld.below HG.out sU_) | (with_reducible refine Fld.alloc ?_ _) | (with_reducible refine Fld.drewN ?_ _) | (with_reducible refine Fld.drew ?_)))
   rintro e w14 ⟨rfl, hb⟩
   refine ⟨_, rfl, ?_⟩
   refine nx2_ (blk_below (kU_ BK139.out) hb) (below_step sU_ hb) ?_
   clear BK139 HB
   intro BK139 HB
   (try clear hb)
   (try clear hb2)
   (try clear hk)
   (try clear hi)
   refine hK.out _ _ ⟨bc0_ BK139.out, bc1_ BK139.out, bc2_ BK139.out⟩ (fun hHeld => ?_)
   clear hK K
   refine norm_ (a' := ?_) ?_ ?_
   rotate_left
   ·show Act.put _ (some 23) _ = _
    simp only [Act.put, s1_, s2_, s3_, i64_w, i32_w]
    rfl
   refine oq_ 13 26 16 16383 HT_.out fun K hK => ?_
   refine gs_ Tryd.func41 #[.int .i64 a0_0, .int .u64 t141, .int .u64 (IntKind.u64.wrap (a1))] ?_
   with_reducible refine (field_Pow.calls kj2 a0_0 t141 (IntKind.u64.wrap (a1)) t142 _ ?side1 A11.out).mono ?_
   (case side1 => repeat (first | with_reducible exact HG.out | with_reducible exact (Fld.below HG.out HB.out) | exact (Fld.below HG.out sU_) | (with_reducible refine Fld.alloc ?_ _) | (with_reducible refine Fld.drewN ?_ _) | (with_reducible refine Fld.drew ?_)))
   rintro e w15 ⟨rfl, hb⟩
   refine ⟨_, rfl, ?_⟩
   refine nx2_ (blk_below (kU_ BK139.out) hb) (below_step sU_ hb) ?_
   clear BK139 HB
   intro BK139 HB
   (try clear hb)
   (try clear hb2)
   (try clear hk)
   (try clear hi)
   refine hK.out _ _ ⟨bc0_ BK139.out, bc1_ BK139.out, bc2_ BK139.out⟩ (fun hHeld => ?_)
   clear hK K
   refine norm_ (a' := ?_) ?_ ?_
   rotate_left
   ·show Act.put _ (some 26) _ = _
    simp only [Act.put, s1_, s2_, s3_, i64_w, i32_w]
    rfl
   refine oq_ 14 27 16 32767 HT_.out fun K hK => ?_
   refine gs_ Tryd.func19 #[.int .i64 a0_0, .int .u64 a0_2, .int .u64 t142] ?_
   with_reducible refine (field_Mul.calls a0_0 a0_2 t142 t143 _ ?side1 A12.out).mono ?_
   (case side1 => repeat (first | with_reducible exact HG.out | with_reducible exact (Fld.below HG.out HB.out) | exact (Fld.below HG.out sU_) | (with_reducible refine Fld.alloc ?_ _) | (with_reducible refine Fld.drewN ?_ _) | (with_reducible refine Fld.drew ?_)))
   rintro e w16 ⟨rfl, hb⟩
   refine ⟨_, rfl, ?_⟩
   refine nx2_ (blk_below (kU_ BK139.out) hb) (below_step sU_ hb) ?_
   clear BK139 HB
   intro BK139 HB
   (try clear hb)
   (try clear hb2)
   (try clear hk)
   (try clear hi)
   refine hK.out _ _ ⟨bc0_ BK139.out, bc1_ BK139.out, bc2_ BK139.out⟩ (fun hHeld => ?_)
   clear hK K
   refine norm_ (a' := ?_) ?_ ?_
   rotate_left
   ·show Act.put _ (some 27) _ = _
    simp only [Act.put, s1_, s2_, s3_, i64_w, i32_w]
    rfl
   refine pq_ 15 4 16 65535 HT_.out ?_
   refine done_ (done_of HT_.out (by kernel_rfl)) ?_
   try go_wp2
   go_ret
   exact ⟨eW_, sU_⟩


def bits_TrailingZeros64.f (a0 : Int) : Option (Int) := tz64 a0
theorem bits_TrailingZeros64.calls (a0 : Int) (r : Int) (w : World) (hG : Fld w) (h : bits_TrailingZeros64.f a0 = some r) :
  Calls Tryd.prog 95 #[.int .u64 a0] w fun e w' => e = .returned (.int .i64 r) ∧ Below w.heap.size w w' := tz64_calls a0 r w hG h

def bits_TrailingZeros.f (a0 : Int) : Option (Int) := (bits_TrailingZeros64.f a0).bind fun t144 => (some t144)
set_option maxHeartbeats 8000000 in
set_option maxRecDepth 100000 in
theorem bits_TrailingZeros.calls (a0 : Int) (r : Int) (w : World) (hG : Fld w) (h : bits_TrailingZeros.f a0 = some r) :
  Calls Tryd.prog 89 #[.int .u64 a0] w fun e w' => e = .returned (.int .i64 r) ∧ Below w.heap.size w w' := by
 have HG := ak hG
 clear hG
 have HB := ak (Below.refl w.heap.size w)
 have H : ((bits_TrailingZeros64.f a0).bind fun t144 => (some t144)) = some r := h
 clear h
 revert H
 refine bd_ fun t144 A2 H => ?_
 obtain rfl := Option.some.inj H
 go_enter Tryd.func89, Tryd.ntmps89
 go_wp2_with (first | ((with_reducible refine gate_callee (f := 95) rfl ?_); refine gl_ (some 7) Tryd.func95 #[.int .u64 a0] ?_; (with_reducible refine (bits_TrailingZeros64.calls a0 t144 _ ?side1 A2.out).mono ?_); (case side1 => exact fU_ HG.out HB.out); rintro e w3 ⟨rfl, hb⟩; refine ⟨_, rfl, ?_⟩; refine nx1_ (below_step (bU_ HB.out) hb) ?_; clear HB; intro HB; clear hb))
 go_ret
 exact ⟨eW_, bU_ HB.out⟩

def transform_greatest.f (a0 : Int) : Option (Int) := (field_Twos.f a0).bind fun t145 => (some (mn t145 18))
set_option maxHeartbeats 8000000 in
set_option maxRecDepth 100000 in
theorem transform_greatest.calls (a0 : Int) (r : Int) (w : World) (hG : Fld w) (h : transform_greatest.f a0 = some r) :
  Calls Tryd.prog 90 #[.int .i64 a0] w fun e w' => e = .returned (.int .i64 r) ∧ Below w.heap.size w w' := by
 have HG := ak hG
 clear hG
 have HB := ak (Below.refl w.heap.size w)
 have H : ((field_Twos.f a0).bind fun t145 => (some (mn t145 18))) = some r := h
 clear h
 revert H
 refine bd_ fun t145 A2 H => ?_
 obtain ⟨ji3, hji3⟩ : ∃ j_ : Int, (mn t145 18) = j_ := ⟨_, rfl⟩
 first | rw [hji3] at H | simp only [hji3] at H
 (try rw [hji3] at A2)
 (try (have hji3h : ji3 ≤ 18 := by (rw [← hji3]; unfold mn; (repeat' split) <;> omega)))
 (try (have hji3g : ji3 ≤ 64 := by omega))
 have hji3_ : (if 18 < t145 then 18 else t145) = ji3 := hji3
 obtain rfl := Option.some.inj H
 go_enter Tryd.func90, Tryd.ntmps90
 go_wp2_with (first | ((with_reducible refine gate_callee (f := 79) rfl ?_); refine gl_ (some 4) Tryd.func79 #[.int .i64 a0] ?_; (with_reducible refine (field_Twos.calls a0 t145 _ ?side1 A2.out).mono ?_); (case side1 => exact fU_ HG.out HB.out); rintro e w4 ⟨rfl, hb⟩; refine ⟨_, rfl, ?_⟩; refine nx1_ (below_step (bU_ HB.out) hb) ?_; clear HB; intro HB; clear hb))
 go_ret
 exact ⟨by first | rfl | (simp [errW_none, errW_some] <;> rfl) | (simp only [← hji3]; first | rfl | (simp [errW_none, errW_some] <;> rfl)) | (simp [*, errW_none, errW_some] <;> rfl), bU_ HB.out⟩

def transform_exponent.j0 : Nat → Int → Int → Bool → Option (Int × Bool)
 | 0, _, _, _ => none
 | k + 1, x0, x1, x15 => if x15 = true then (some (0, false)) else ((bits_TrailingZeros.f (IntKind.u64.wrap (x1))).bind fun t146 => ((transform_greatest.f x0).bind fun t147 => (some (t146, decide (t146 ≤ t147)))))
def transform_exponent.f (k : Nat) (a0 : Int) (a1 : Int) : Option (Int × Bool) := if a1 < 1 then (transform_exponent.j0 k a0 a1 true) else (transform_exponent.j0 k a0 a1 ((Go.bits .and .i64 a1 (wrap64 (a1 - 1))) != 0))
theorem transform_exponent.mono_l : ∀ k, (∀ y0 y1 y2, LeO (transform_exponent.j0 k y0 y1 y2) (transform_exponent.j0 (k + 1) y0 y1 y2))
 | 0 => fun _ _ _ r h => by simp [transform_exponent.j0] at h
 | k + 1 => by
  have ih0 := transform_exponent.mono_l k
  ·intro y0 y1 y2
   unfold transform_exponent.j0
   with_reducible repeat' first | apply ih0 | exact LeO.refl _ | exact LeO.none _ | refine LeO.ite ?_ ?_ | refine LeO.bind ?_ (fun _ => ?_)
theorem transform_exponent.mono : ∀ a0 a1 k, LeO (transform_exponent.f k a0 a1) (transform_exponent.f (k + 1) a0 a1) := by
 intro a0 a1 k
 have ih0 := transform_exponent.mono_l k
 unfold transform_exponent.f
 with_reducible repeat' first | apply ih0 | exact LeO.refl _ | exact LeO.none _ | refine LeO.ite ?_ ?_ | refine LeO.bind ?_ (fun _ => ?_)
set_option maxHeartbeats 8000000 in
set_option maxRecDepth 100000 in
theorem transform_exponent.calls (k : Nat) (a0 : Int) (a1 : Int) (r1 : Int) (r2 : Bool) (w : World) (hG : Fld w) (h : transform_exponent.f k a0 a1 = some (r1, r2)) :
  Calls Tryd.prog 80 #[.int .i64 a0, .int .i64 a1] w fun e w' => e = .returned (.tuple #[.int .i64 r1, .bool r2]) ∧ Below w.heap.size w w' := by
 have HG := ak hG
 clear hG
 have HB := ak (Below.refl w.heap.size w)
 have H := h
 clear h
 unfold transform_exponent.f at H
 have HC3 := ak H
 clear H
 go_enter Tryd.func80, Tryd.ntmps80
 go_upto_region 1 with (fail)
 go_cut [15] (fun v15 wc => ∃ (kq : Nat) (x15_2 : Bool), v15 = .bool x15_2 ∧ Aside0 (transform_exponent.j0 kq a0 a1 x15_2 = some (r1, r2)) ∧ Aside0 (kq ≤ k) ∧ Aside0 (Below w.heap.size w wc))
 case first =>
  have H := HC3.out
  clear HC3
  by_cases c4 : a1 < 1
  ·rw [if_pos c4] at H
   have c4b0 := decide_eq_true c4
   clear c4
   (first | rw [c4b0] | (simp only [i64_w, i32_w]; rw [c4b0]) | rw [c4b1] | skip)
   have H' := ak H
   clear H
   go_wp2
   go_meet
   case rel => exact ⟨_, (true), gb_, H', ⟨by first | omega | exact Nat.le_refl _⟩, ⟨bU_ HB.out⟩⟩
  rw [if_neg c4] at H
  have c4b0 := decide_eq_false c4
  clear c4
  (first | rw [c4b0] | (simp only [i64_w, i32_w]; rw [c4b0]) | rw [c4b1] | skip)
  have H' := ak H
  clear H
  go_wp2
  go_meet
  case rel => exact ⟨_, (((Go.bits .and .i64 a1 (wrap64 (a1 - 1))) != 0)), gb_, H', ⟨by first | omega | exact Nat.le_refl _⟩, ⟨bU_ HB.out⟩⟩
 case rest =>
  clear HC3
  (try clear p2); (try clear c4); (try clear c4b0); (try clear c4b1)
  obtain ⟨kq, x15_2, rfl, HA, HJ2, HB⟩ := hcut
  cases kq with
  | zero => exact absurd HA.out (by simp [transform_exponent.j0])
  | succ kj2 =>
   have H := HA.out
   clear HA
   simp only [transform_exponent.j0] at H
   by_cases c5 : x15_2 = true
   ·subst c5
    rw [if_pos rfl] at H
    simp only [Option.some.injEq, Prod.mk.injEq] at H
    obtain ⟨rfl, rfl⟩ := H
    go_wp2
    go_ret2
    exact ⟨eW_, bU_ HB.out⟩
   replace c5 := Bool.eq_false_iff.mpr c5
   subst c5
   rw [if_neg (show ¬ (false = true) by decide)] at H
   revert H
   refine bd_ fun t146 A6 H => ?_
   revert H
   refine bd_ fun t147 A7 H => ?_
   simp only [Option.some.injEq, Prod.mk.injEq] at H
   obtain ⟨rfl, rfl⟩ := H
   go_wp2_with (first | ((with_reducible refine gate_callee (f := 89) rfl ?_); refine gl_ (some 18) Tryd.func89 #[.int .u64 (IntKind.u64.wrap (a1))] ?_; (with_reducible refine (bits_TrailingZeros.calls (IntKind.u64.wrap (a1)) t146 _ ?side1 A6.out).mono ?_); (case side1 => exact fU_ HG.out HB.out); rintro e w8 ⟨rfl, hb⟩; refine ⟨_, rfl, ?_⟩; refine nx1_ (below_step (bU_ HB.out) hb) ?_; clear HB; intro HB; clear hb) | ((with_reducible refine gate_callee (f := 90) rfl ?_); refine gl_ (some 22) Tryd.func90 #[.int .i64 a0] ?_; (with_reducible refine (transform_greatest.calls a0 t147 _ ?side1 A7.out).mono ?_); (case side1 => exact fU_ HG.out HB.out); rintro e w9 ⟨rfl, hb⟩; refine ⟨_, rfl, ?_⟩; refine nx1_ (below_step (bU_ HB.out) hb) ?_; clear HB; intro HB; clear hb))
   go_ret2
   exact ⟨eW_, bU_ HB.out⟩

def bits_ReverseBytes64.f (a0 : Int) : Option (Int) := some (Go.bits .or .u64 ((Go.bits .or .u64 (Go.bits .and .u64 ((Go.bits .or .u64 (Go.bits .and .u64 (a0 / 256) 71777214294589695) (IntKind.u64.wrap ((Go.bits .and .u64 a0 71777214294589695) * 256))) / 65536) 281470681808895) (IntKind.u64.wrap ((Go.bits .and .u64 (Go.bits .or .u64 (Go.bits .and .u64 (a0 / 256) 71777214294589695) (IntKind.u64.wrap ((Go.bits .and .u64 a0 71777214294589695) * 256))) 281470681808895) * 65536))) / 4294967296) (IntKind.u64.wrap ((Go.bits .or .u64 (Go.bits .and .u64 ((Go.bits .or .u64 (Go.bits .and .u64 (a0 / 256) 71777214294589695) (IntKind.u64.wrap ((Go.bits .and .u64 a0 71777214294589695) * 256))) / 65536) 281470681808895) (IntKind.u64.wrap ((Go.bits .and .u64 (Go.bits .or .u64 (Go.bits .and .u64 (a0 / 256) 71777214294589695) (IntKind.u64.wrap ((Go.bits .and .u64 a0 71777214294589695) * 256))) 281470681808895) * 65536))) * 4294967296)))
set_option maxHeartbeats 8000000 in
set_option maxRecDepth 100000 in
theorem bits_ReverseBytes64.calls (a0 : Int) (r : Int) (w : World) (h : bits_ReverseBytes64.f a0 = some r) :
  Calls Tryd.prog 96 #[.int .u64 a0] w fun e w' => e = .returned (.int .u64 r) ∧ Drawn0 w w' := by
 have H := h
 clear h
 unfold bits_ReverseBytes64.f at H
 obtain rfl := Option.some.inj H
 go_enter Tryd.func96, Tryd.ntmps96
 go_wp2
 go_ret
 exact ⟨by first | rfl | (simp; done) | (simp [*]; done), by repeat (first | exact Drawn0.refl _ | apply Drawn0.step)⟩

def bits_Reverse64.f (a0 : Int) : Option (Int) := (bits_ReverseBytes64.f (Go.bits .or .u64 (Go.bits .and .u64 ((Go.bits .or .u64 (Go.bits .and .u64 ((Go.bits .or .u64 (Go.bits .and .u64 (a0 / 2) 6148914691236517205) (IntKind.u64.wrap ((Go.bits .and .u64 a0 6148914691236517205) * 2))) / 4) 3689348814741910323) (IntKind.u64.wrap ((Go.bits .and .u64 (Go.bits .or .u64 (Go.bits .and .u64 (a0 / 2) 6148914691236517205) (IntKind.u64.wrap ((Go.bits .and .u64 a0 6148914691236517205) * 2))) 3689348814741910323) * 4))) / 16) 1085102592571150095) (IntKind.u64.wrap ((Go.bits .and .u64 (Go.bits .or .u64 (Go.bits .and .u64 ((Go.bits .or .u64 (Go.bits .and .u64 (a0 / 2) 6148914691236517205) (IntKind.u64.wrap ((Go.bits .and .u64 a0 6148914691236517205) * 2))) / 4) 3689348814741910323) (IntKind.u64.wrap ((Go.bits .and .u64 (Go.bits .or .u64 (Go.bits .and .u64 (a0 / 2) 6148914691236517205) (IntKind.u64.wrap ((Go.bits .and .u64 a0 6148914691236517205) * 2))) 3689348814741910323) * 4))) 1085102592571150095) * 16)))).bind fun t148 => (some t148)
set_option maxHeartbeats 8000000 in
set_option maxRecDepth 100000 in
theorem bits_Reverse64.calls (a0 : Int) (r : Int) (w : World) (h : bits_Reverse64.f a0 = some r) :
  Calls Tryd.prog 92 #[.int .u64 a0] w fun e w' => e = .returned (.int .u64 r) ∧ Drawn0 w w' := by
 have H := h
 clear h
 unfold bits_Reverse64.f at H
 revert H
 refine bd_ fun t148 A2 H => ?_
 obtain rfl := Option.some.inj H
 go_enter Tryd.func92, Tryd.ntmps92
 go_wp2_with (first | ((with_reducible refine gate_callee (f := 96) rfl ?_); refine gl_ (some 25) Tryd.func96 #[.int .u64 (Go.bits .or .u64 (Go.bits .and .u64 ((Go.bits .or .u64 (Go.bits .and .u64 ((Go.bits .or .u64 (Go.bits .and .u64 (a0 / 2) 6148914691236517205) (IntKind.u64.wrap ((Go.bits .and .u64 a0 6148914691236517205) * 2))) / 4) 3689348814741910323) (IntKind.u64.wrap ((Go.bits .and .u64 (Go.bits .or .u64 (Go.bits .and .u64 (a0 / 2) 6148914691236517205) (IntKind.u64.wrap ((Go.bits .and .u64 a0 6148914691236517205) * 2))) 3689348814741910323) * 4))) / 16) 1085102592571150095) (IntKind.u64.wrap ((Go.bits .and .u64 (Go.bits .or .u64 (Go.bits .and .u64 ((Go.bits .or .u64 (Go.bits .and .u64 (a0 / 2) 6148914691236517205) (IntKind.u64.wrap ((Go.bits .and .u64 a0 6148914691236517205) * 2))) / 4) 3689348814741910323) (IntKind.u64.wrap ((Go.bits .and .u64 (Go.bits .or .u64 (Go.bits .and .u64 (a0 / 2) 6148914691236517205) (IntKind.u64.wrap ((Go.bits .and .u64 a0 6148914691236517205) * 2))) 3689348814741910323) * 4))) 1085102592571150095) * 16)))] ?_; (with_reducible refine (bits_ReverseBytes64.calls (Go.bits .or .u64 (Go.bits .and .u64 ((Go.bits .or .u64 (Go.bits .and .u64 ((Go.bits .or .u64 (Go.bits .and .u64 (a0 / 2) 6148914691236517205) (IntKind.u64.wrap ((Go.bits .and .u64 a0 6148914691236517205) * 2))) / 4) 3689348814741910323) (IntKind.u64.wrap ((Go.bits .and .u64 (Go.bits .or .u64 (Go.bits .and .u64 (a0 / 2) 6148914691236517205) (IntKind.u64.wrap ((Go.bits .and .u64 a0 6148914691236517205) * 2))) 3689348814741910323) * 4))) / 16) 1085102592571150095) (IntKind.u64.wrap ((Go.bits .and .u64 (Go.bits .or .u64 (Go.bits .and .u64 ((Go.bits .or .u64 (Go.bits .and .u64 (a0 / 2) 6148914691236517205) (IntKind.u64.wrap ((Go.bits .and .u64 a0 6148914691236517205) * 2))) / 4) 3689348814741910323) (IntKind.u64.wrap ((Go.bits .and .u64 (Go.bits .or .u64 (Go.bits .and .u64 (a0 / 2) 6148914691236517205) (IntKind.u64.wrap ((Go.bits .and .u64 a0 6148914691236517205) * 2))) 3689348814741910323) * 4))) 1085102592571150095) * 16))) t148 _ A2.out).mono ?_); rintro e w' ⟨rfl, ⟨nd, rfl⟩⟩; refine ⟨_, rfl, ?_⟩))
 go_ret
 exact ⟨by first | rfl | (simp; done) | (simp [*]; done), by repeat (first | exact Drawn0.refl _ | apply Drawn0.step)⟩


theorem hold_ {p : Prop} (h : Aside0 p) : p := h.out
section
variable {P : Program} {ops : Array Oper} {Q : Exit → Act → World → Prop}
theorem gclo_ {rest : List Oper} {oi : Oper} {a : Act} {w : World} (N : Option Tmp) (hd : oi.dst = N) (hg : oi.guard = none) {f : FuncId} {fn : Func} {t : Tmp} {xs : Array Operand} {ts : Array TypeId} {cap : Array Value} (hf : P.funcs[f]? = some fn) (hname : (fn.name == "runtime.NumGoroutine") = false) (hb : fn.body.isSome = true) (args : Array Value)
  (hop : oi.op = .call { callee := .value (.tmp t), args := xs, argTypes := ts }) (hfun : a.eval (.tmp t) = .func (Fn.func f) #[] cap) (hargs : xs.map a.eval ++ cap = args)
  (h : Calls P f args w fun e w' => ∃ v, e = .returned v ∧ wpList P ops Q rest (a.put N v) w') : wpList P ops Q (oi :: rest) a w := by
 refine wpList_plain hg fun K hK => ?_
 have he := enters_ hf hname hb args w
 have hrun : (execOp a.eval oi).run P w = .ok (.enter f args) w := by
  unfold execOp
  simp [hop, resolve, Deferred.ofValue, invoke, hfun, hargs, he]
 unfold Oper.wp
 rw [hrun, Oper.upon_enter]
 refine h.mono fun e w'' hh => ?_
 obtain ⟨v, rfl, hk⟩ := hh
 subst hd
 exact hK _ _ hk
end
set_option maxHeartbeats 4000000 in
set_option maxRecDepth 100000 in
theorem place_calls (kk i rv : Int) (B : Nat) (w : World) (hc : w.cell? ⟨B, 0, none⟩ = some (.int .i64 kk)) (hB : B < w.heap.size) (h0 : 0 ≤ kk) (h1 : kk ≤ 64) (h : bits_Reverse64.f (IntKind.u64.wrap i) = some rv) :
  Calls Tryd.prog 91 #[.int .i64 i, .pointer (some ⟨B, 0, none⟩)] w fun e w' => e = .returned (.int .i64 (wrap64 (rv / 2 ^ (64 - kk).toNat))) ∧ Below w.heap.size w w' := by
 go_enter Tryd.func91, Tryd.ntmps91
 go_wp2
 refine start_ (n := 8) (S := fun w' => w'.cell? ⟨B, 0, none⟩ = some (.int .i64 kk)) (ds := []) (bv 8 0) (by kernel_rfl) rfl rfl hc (fun hHeld => ?_)
 have HT_ : Aside0 (rtab .any (opsOf Tryd.f91 1) = rtab .any (opsOf Tryd.f91 1)) := ⟨rfl⟩
 have HB := ak (below_drew1 (Below.refl w.heap.size w))
 have hB' : B < w.drew.heap.size := hB
 generalize w.drew = w9 at HB hHeld hB' ⊢
 refine pq_ 0 4 8 1 HT_.out ?_
 refine pq_ 1 5 8 3 HT_.out ?_
 refine take_ (i := 3) (N := some 7) (v := ?_) (a' := ?_) (bv 8 11) rfl rfl (take_of HT_.out (by kernel_rfl)) (fun _ _ _ h => h) (Or.inl ⟨by rfl, ?_⟩) hHeld ?_ ?_
 rotate_left
 ·intro w' s0
  go_simp
  with_reducible rfl
 rotate_left
 ·simp only [Act.put, s1_, s2_, s3_, i64_w, i32_w]
  rfl
 refine pq_ 4 8 8 27 HT_.out ?_
 refine oq_ 2 6 8 31 HT_.out fun K hK => ?_
 refine gs_ Tryd.func92 #[.int .u64 (IntKind.u64.wrap i)] ?_
 refine (bits_Reverse64.calls (IntKind.u64.wrap i) rv _ h).mono ?_
 rintro e w5 ⟨rfl, hd⟩
 refine ⟨_, rfl, ?_⟩
 have hc5 : w5.cell? ⟨B, 0, none⟩ = some (.int .i64 kk) := (hd.below.cell hB').trans hHeld
 refine nx1_ (below_step HB.out hd.below) ?_
 clear HB
 intro HB
 clear hd
 refine hK.out _ _ hc5 (fun hHeld => ?_)
 clear hK K
 refine norm_ (a' := ?_) ?_ ?_
 rotate_left
 ·show Act.put _ (some 6) _ = _
  simp only [Act.put, s1_, s2_, s3_, i64_w, i32_w]
  rfl
 have f1 : wrap64 (64 - kk) = 64 - kk := by unfold wrap64; omega
 rw [f1]
 have f2 : (0 : Int) ≤ 64 - kk := by omega
 have f3 : min (64 - kk).toNat 64 = (64 - kk).toNat := by omega
 have f4 : (64 - kk).toNat ≤ 64 := by omega
 refine pr_ (i := 5) (N := some 9) (v := .int .u64 (rv / 2 ^ (64 - kk).toNat)) (a' := ?_) (bv 8 63) HT_.out ?_ ?_ ?_; rotate_left 1
 ·intro w'
  go_simp
 ·simp only [Act.put, s1_, s2_, s3_]
  rfl
 refine pq_ 6 10 8 127 HT_.out ?_
 refine pq_ 7 3 8 255 HT_.out ?_
 refine done_ (done_of HT_.out (by kernel_rfl)) ?_
 go_wp2
 go_ret
 exact ⟨rfl, HB.out⟩
def transform_reordered.l0 : Nat → Int → Int → List Int → List Int → Nat → Option (List Int)
 | 0, _, _, _, _, _ => none
 | k + 1, f, kk, l, out, i => if i < l.length then (bits_Reverse64.f (IntKind.u64.wrap (i : Int))).bind fun rv => if 0 ≤ wrap64 (rv / 2 ^ (64 - kk).toNat) ∧ wrap64 (rv / 2 ^ (64 - kk).toNat) < (l.length : Int) then (field_Reduce.f f (rd l (wrap64 (rv / 2 ^ (64 - kk).toNat)))).bind fun y => transform_reordered.l0 k f kk l (out.set i y) (i + 1) else none else some out
def transform_reordered.f (k : Nat) (a0 : Int) (l1 : List Int) : Option (List Int) := (bits_TrailingZeros.f (l1.length : Int)).bind fun kk => if 0 ≤ kk ∧ kk ≤ 64 ∧ l1.length ≤ 35184372088832 then transform_reordered.l0 k a0 kk l1 (List.replicate l1.length 0) 0 else none
theorem transform_reordered.mono_l : ∀ k f kk l out i, LeO (transform_reordered.l0 k f kk l out i) (transform_reordered.l0 (k + 1) f kk l out i)
 | 0, _, _, _, _, _ => fun r h => by simp [transform_reordered.l0] at h
 | k + 1, f, kk, l, out, i => by
  rw [transform_reordered.l0, transform_reordered.l0]
  exact LeO.ite (LeO.bind (LeO.refl _) fun _ => LeO.ite (LeO.bind (LeO.refl _) fun _ => transform_reordered.mono_l _ _ _ _ _ _) (LeO.refl _)) (LeO.refl _)
theorem transform_reordered.mono : ∀ a0 l1 k, LeO (transform_reordered.f k a0 l1) (transform_reordered.f (k + 1) a0 l1) := fun a0 l1 k => by
 unfold transform_reordered.f
 exact LeO.bind (LeO.refl _) fun _ => LeO.ite (transform_reordered.mono_l _ _ _ _ _ _) (LeO.refl _)
set_option maxHeartbeats 8000000 in
set_option maxRecDepth 100000 in
theorem transform_reordered.calls (k : Nat) (a0 : Int) (A1 : Option Addr) (c1 : Nat) (l1 r : List Int) (w : World) (hG : Fld w) (hr1 : Kd.C (Kd.int .u64) w A1 l1.length l1) (hc1 : l1.length ≤ c1) (h : transform_reordered.f k a0 l1 = some r) :
  Calls Tryd.prog 81 #[.int .i64 a0, .slice A1 l1.length c1] w fun e w' => ∃ v0_ : Value, e = .returned v0_ ∧ Kd.R (Kd.int .u64) 22 w' w.heap.size (fun _ => True) v0_ r ∧ Below w.heap.size w w' := by
 have HG := ak hG
 have HR1 := ak hr1
 clear hG hr1
 unfold transform_reordered.f at h
 obtain ⟨kk, hk, h⟩ := Option.bind_eq_some_iff.mp h
 have HK := ak hk
 clear hk
 by_cases c2 : 0 ≤ kk ∧ kk ≤ 64 ∧ l1.length ≤ 35184372088832
 ·rw [if_pos c2] at h
  have H' := ak h
  clear h
  have hmf : ∀ (fn : Fn) (first cap : Array Value) (w : World), (Instr.makeFunc fn first cap).run Tryd.prog w = .ok (.func fn first cap) w := fun _ _ _ _ => rfl
  have HB := ak (Below.refl w.heap.size w)
  go_enter Tryd.func81, Tryd.ntmps81
  go_wp2_with (first | ((with_reducible refine gate_callee (f := 89) rfl ?_); refine gl_ (some 12) Tryd.func89 #[.int .u64 (l1.length : Int)] ?_; (with_reducible refine (bits_TrailingZeros.calls (l1.length : Int) kk _ ?side1 HK.out).mono ?_); (case side1 => exact fU_ HG.out HB.out); rintro e w1 ⟨rfl, hb⟩; refine ⟨_, rfl, ?_⟩; refine nx1_ (below_step (bU_ HB.out) hb) ?_; clear HB; intro HB; clear hb) | ((with_reducible refine gate_dst (N := 16) rfl ?_); refine hold_ ?_))
  have hA := below_alloc HB.out (Obj.cells #[.int .i64 kk] 3)
  have g0 : (w1.alloc (Obj.cells #[.int .i64 kk] 3)).cell? ⟨w1.heap.size, 0, none⟩ = some (.int .i64 kk) := by go_simp
  have g1 : w1.heap.size < (w1.alloc (Obj.cells #[.int .i64 kk] 3)).heap.size := by simp
  generalize w1.alloc (Obj.cells #[.int .i64 kk] 3) = wA at *
  generalize w1.heap.size = B at *
  clear HB HK
  have HB := ak hA
  clear hA
  refine ⟨?_⟩
  refine R_make (Kd.int .u64) _ 22 rfl (N := 16) rfl 33 _ _ rfl (l1.length : Int) ?hx ?hy Tryd.underlying33 (.int .u64 0) 8 info22 rfl (by decide) (by omega) 0 (ok := fun _ => True) (okp := fun _ => True) rfl (fun _ hk => hk) trivial (by omega) (Nat.le_trans (Nat.mul_le_mul_right _ (show (l1.length : Int).toNat ≤ 35184372088832 by omega)) (by omega)) (Below.refl _ _) (Nat.le_refl _) ?_
  ·rfl
  ·rfl
  intro v0 w2 ho hb _ _
  have g2 := (hb.cell g1).trans g0
  have g3 := Nat.lt_of_lt_of_le g1 hb.size
  have g1' := g1
  clear g0 g1
  have HBS := ak (And.intro (below_size HB.out) g1')
  generalize wA.heap.size = bs at ho HBS
  have HO := ak ho
  refine nx1_ (below_step (bU_ HB.out) hb) ?_
  clear HB ho hb
  intro HB
  rw [show ((l1.length : Int)).toNat = l1.length from Int.toNat_natCast _] at HO
  obtain ⟨Ao, co, eo⟩ := R_slice HO.out
  subst eo
  rw [show (List.replicate l1.length (0 : Int)).length = l1.length from List.length_replicate] at HO ⊢
  have GG := ak (And.intro g2 g3)
  clear g2 g3
  go_wp2
  go_loopg [19] k (fun kq v19 w' => ∃ (i : Nat) (out : List Int), v19 = .int .i64 (i : Int) ∧ Aside0 (transform_reordered.l0 kq a0 kk l1 out i = some r) ∧ Aside0 (kq ≤ k) ∧ Aside0 (out.length = l1.length) ∧ Aside0 (Kd.R (Kd.int .u64) 22 w' bs (fun _ => True) (.slice Ao l1.length co) out) ∧ Aside0 (w'.cell? ⟨B, 0, none⟩ = some (.int .i64 kk) ∧ B < w'.heap.size) ∧ Aside0 (Below w.heap.size w w'))
  case atStart => exact ⟨0, _, rfl, H', ⟨Nat.le_refl _⟩, ⟨List.length_replicate⟩, ⟨rU_ HO.out⟩, GG, HB⟩
  case round =>
   clear H' HO GG HB
   obtain ⟨i, out, rfl, HA, HK, HLN, HO, GG, HB⟩ := hrel
   cases gk with
   | zero => exact absurd HA.out (by simp [transform_reordered.l0])
   | succ k1 =>
    have H := HA.out
    clear HA
    rw [transform_reordered.l0] at H
    by_cases c3 : i < l1.length
    ·rw [if_pos c3] at H
     obtain ⟨rv, hrv, H⟩ := Option.bind_eq_some_iff.mp H
     have A9 := ak hrv
     clear hrv
     by_cases c4 : 0 ≤ wrap64 (rv / 2 ^ (64 - kk).toNat) ∧ wrap64 (rv / 2 ^ (64 - kk).toNat) < (l1.length : Int)
     ·rw [if_pos c4] at H
      obtain ⟨pl, hpl⟩ : ∃ pl, pl = wrap64 (rv / 2 ^ (64 - kk).toNat) := ⟨_, rfl⟩
      rw [← hpl] at c4 H
      obtain ⟨c4, c5⟩ := c4
      obtain ⟨y, hy, H⟩ := Option.bind_eq_some_iff.mp H
      have A2 := ak hy
      have H' := ak H
      clear hy H
      have e1 : decide ((i : Int) < (l1.length : Int)) = true := by simp; omega
      obtain ⟨ad, ea, hx⟩ := Kd.at_int HR1.out pl c4 c5
      cases ea
      replace hx := (HB.out.cell (World.block_lt_of_cell? w _ hx)).trans hx
      have HX := ak hx
      clear hx
      go_wp2_with (first | ((with_reducible refine gate_dst (N := 28) rfl ?_); refine hold_ ?_))
      refine ⟨?_⟩
      refine gclo_ (some 28) rfl rfl Tryd.func91 (by kernel_rfl) rfl #[.int .i64 (i : Int), .pointer (some ⟨B, 0, none⟩)] rfl rfl (by simp only [List.map_toArray, List.map_cons, List.map_nil, List.append_toArray, List.cons_append, List.nil_append]; rfl) ?_
      refine (place_calls kk i rv B _ GG.out.1 GG.out.2 c2.1 c2.2.1 A9.out).mono ?_
      rintro e w5 ⟨rfl, hb⟩
      rw [← hpl]
      refine ⟨_, rfl, ?_⟩
      refine nx4_ (R_below (rU_ HO.out) hb) (And.intro ((hb.cell GG.out.2).trans GG.out.1) (Nat.lt_of_lt_of_le GG.out.2 hb.size)) ((hb.cell (World.block_lt_of_cell? _ _ HX.out)).trans HX.out) (below_step (bU_ HB.out) hb) ?_
      clear HO GG HX HB hb hpl
      intro HO GG HX HB
      have hx := HX.out
      clear HX
      go_wp2_with (first | ((with_reducible refine gate_callee (f := 22) rfl ?_); refine hold_ ?_))
      refine ⟨?_⟩
      refine gl_ (some 31) Tryd.func22 #[.int .i64 a0, .int .u64 (rd l1 pl)] ?_
      refine (field_Reduce.calls a0 (rd l1 pl) y _ ?side1 A2.out).mono ?_
      case side1 => exact fU_ HG.out HB.out
      rintro e w6 ⟨rfl, hb⟩
      refine ⟨_, rfl, ?_⟩
      refine nx3_ (R_below (rU_ HO.out) hb) (And.intro ((hb.cell GG.out.2).trans GG.out.1) (Nat.lt_of_lt_of_le GG.out.2 hb.size)) (below_step (bU_ HB.out) hb) ?_
      clear HO GG HB hb hx
      intro HO GG HB
      have hio : (i : Int) < (out.length : Int) := by have := HLN.out; omega
      rw [← HLN.out] at HO ⊢
      obtain ⟨g, c, eo, gb, gl, cl, hgg⟩ := Kd.R_form HO.out (by omega)
      injection eo with ea_ en_ ec_
      subst ea_
      subst ec_
      obtain ⟨hx, hf⟩ := Kd.R_celln 0 HO.out (i : Int) (by omega) hio
      rw [Int.toNat_natCast] at hx hf
      have HP := Kd.R_putg HO.out (i : Int) y
      rw [Int.toNat_natCast] at HP
      have hcB : (w6.setCell ⟨g, i, none⟩ (.int .u64 y)).cell? ⟨B, 0, none⟩ = some (.int .i64 kk) := (World.cell?_setCell_other _ _ _ _ (by have := HBS.out; intro hq; simp only [Addr.mk.injEq] at hq; omega)).trans GG.out.1
      go_wp2_with (first | ((with_reducible refine gate_store (t := 22) (p := 32) rfl ?_); refine hold_ ?_))
      refine ⟨?_⟩
      refine store_event (t := 22) (p := 32) (v := ?vo) (w1 := (w6.setCell ⟨g, i, none⟩ (.int .u64 y))) ?hg ?ho ?hn ?hr ?_
      case ho => rfl
      case hg => rfl
      case hn => rfl
      case hr => first | (go_simp; done) | (go_simp; rfl)
      intro w7 hw
      have hgr := HP.2
      rw [← hw] at HP hcB hgr
      have gb' := Nat.le_trans HBS.out.1 gb
      refine nx3_ HP.1 (And.intro hcB (Nat.lt_of_lt_of_le GG.out.2 hgr.size)) (by rw [hw]; exact below_set HB.out gb' : Below w.heap.size w w7) ?_
      clear HO GG HB hx hf HP hcB hgr hw
      intro HO GG HB
      go_wp2
      rw [HLN.out] at HO ⊢
      go_roundg k1
      case measure => have := HK.out; omega
      case rel => exact ⟨i + 1, out.set i y, by first | rfl | (simp; done) | (simp [*]; done), H', ⟨by have := HK.out; omega⟩, ⟨by rw [List.length_set]; exact HLN.out⟩, ⟨rU_ HO.out⟩, GG, HB⟩
     rw [if_neg c4] at H
     simp at H
    rw [if_neg c3] at H
    obtain rfl := Option.some.inj H
    have e1 : decide ((i : Int) < (l1.length : Int)) = false := by simp; omega
    go_wp2
    go_ret
    exact ⟨_, rfl, R_lower HO.out HBS.out.1, HB.out⟩
 rw [if_neg c2] at h
 simp at h

def field_Add.f (a0 : Int) (a1 : Int) (a2 : Int) : Option (Int) := (field_P.f a0).bind fun t149 => (if t149 = 0 then (some 0) else (if (IntKind.u64.wrap ((Int.tmod a1 t149) + (Int.tmod a2 t149))) ≥ t149 then (some (IntKind.u64.wrap ((IntKind.u64.wrap ((Int.tmod a1 t149) + (Int.tmod a2 t149))) - t149))) else (some (IntKind.u64.wrap ((Int.tmod a1 t149) + (Int.tmod a2 t149))))))
set_option maxHeartbeats 8000000 in
set_option maxRecDepth 100000 in
theorem field_Add.calls (a0 : Int) (a1 : Int) (a2 : Int) (r : Int) (w : World) (hG : Fld w) (h : field_Add.f a0 a1 a2 = some r) :
  Calls Tryd.prog 18 #[.int .i64 a0, .int .u64 a1, .int .u64 a2] w fun e w' => e = .returned (.int .u64 r) ∧ Below w.heap.size w w' := by
 have HG := ak hG
 clear hG
 have HB := ak (Below.refl w.heap.size w)
 have H := h
 clear h
 unfold field_Add.f at H
 revert H
 refine bd_ fun t149 A4 H => ?_
 by_cases c5 : t149 = 0
 ·rw [if_pos c5] at H
  have c5b0 := beq_iff_eq.mpr c5
  have c5b1 := bne_eq_false_iff_eq.mpr c5
  clear c5
  obtain rfl := Option.some.inj H
  go_enter Tryd.func18, Tryd.ntmps18
  go_wp2_with (first | (go_at_call 52; (with_reducible refine (field_P.calls a0 t149 _ ?side1 A4.out).mono ?_); (case side1 => exact fU_ HG.out HB.out); rintro e w6 ⟨rfl, hb⟩; refine nx1_ (below_step (bU_ HB.out) hb) ?_; clear HB; intro HB; clear hb))
  repeat (go_quiet (first | (go_at_call 52; (with_reducible refine (field_P.calls a0 t149 _ ?side1 A4.out).mono ?_); (case side1 => exact fU_ HG.out HB.out); rintro e w6 ⟨rfl, hb⟩; refine nx1_ (below_step (bU_ HB.out) hb) ?_; clear HB; intro HB; clear hb)); try go_wp2_with (first | (go_at_call 52; (with_reducible refine (field_P.calls a0 t149 _ ?side1 A4.out).mono ?_); (case side1 => exact fU_ HG.out HB.out); rintro e w6 ⟨rfl, hb⟩; refine nx1_ (below_step (bU_ HB.out) hb) ?_; clear HB; intro HB; clear hb)))
  go_ret
  exact ⟨eW_, bU_ HB.out⟩
 rw [if_neg c5] at H
 have c5b0 := beq_eq_false_iff_ne.mpr c5
 have c5b1 := bne_iff_ne.mpr c5
 by_cases c7 : (IntKind.u64.wrap ((Int.tmod a1 t149) + (Int.tmod a2 t149))) ≥ t149
 ·rw [if_pos c7] at H
  have c7b0 : decide (t149 ≤ (IntKind.u64.wrap ((Int.tmod a1 t149) + (Int.tmod a2 t149)))) = true := decide_eq_true c7
  clear c7
  obtain rfl := Option.some.inj H
  go_enter Tryd.func18, Tryd.ntmps18
  go_wp2_with (first | (go_at_call 52; (with_reducible refine (field_P.calls a0 t149 _ ?side1 A4.out).mono ?_); (case side1 => exact fU_ HG.out HB.out); rintro e w8 ⟨rfl, hb⟩; refine nx1_ (below_step (bU_ HB.out) hb) ?_; clear HB; intro HB; clear hb))
  repeat (go_quiet (first | (go_at_call 52; (with_reducible refine (field_P.calls a0 t149 _ ?side1 A4.out).mono ?_); (case side1 => exact fU_ HG.out HB.out); rintro e w8 ⟨rfl, hb⟩; refine nx1_ (below_step (bU_ HB.out) hb) ?_; clear HB; intro HB; clear hb)); try go_wp2_with (first | (go_at_call 52; (with_reducible refine (field_P.calls a0 t149 _ ?side1 A4.out).mono ?_); (case side1 => exact fU_ HG.out HB.out); rintro e w8 ⟨rfl, hb⟩; refine nx1_ (below_step (bU_ HB.out) hb) ?_; clear HB; intro HB; clear hb)))
  go_ret
  exact ⟨eW_, bU_ HB.out⟩
 rw [if_neg c7] at H
 have c7b0 : decide (t149 ≤ (IntKind.u64.wrap ((Int.tmod a1 t149) + (Int.tmod a2 t149)))) = false := decide_eq_false c7
 clear c7
 obtain rfl := Option.some.inj H
 go_enter Tryd.func18, Tryd.ntmps18
 go_wp2_with (first | (go_at_call 52; (with_reducible refine (field_P.calls a0 t149 _ ?side1 A4.out).mono ?_); (case side1 => exact fU_ HG.out HB.out); rintro e w9 ⟨rfl, hb⟩; refine nx1_ (below_step (bU_ HB.out) hb) ?_; clear HB; intro HB; clear hb))
 repeat (go_quiet (first | (go_at_call 52; (with_reducible refine (field_P.calls a0 t149 _ ?side1 A4.out).mono ?_); (case side1 => exact fU_ HG.out HB.out); rintro e w9 ⟨rfl, hb⟩; refine nx1_ (below_step (bU_ HB.out) hb) ?_; clear HB; intro HB; clear hb)); try go_wp2_with (first | (go_at_call 52; (with_reducible refine (field_P.calls a0 t149 _ ?side1 A4.out).mono ?_); (case side1 => exact fU_ HG.out HB.out); rintro e w9 ⟨rfl, hb⟩; refine nx1_ (below_step (bU_ HB.out) hb) ?_; clear HB; intro HB; clear hb)))
 go_ret
 exact ⟨eW_, bU_ HB.out⟩

def field_Neg.f (a0 : Int) (a1 : Int) : Option (Int) := (field_P.f a0).bind fun t150 => (if t150 = 0 then (some 0) else (if (Int.tmod a1 t150) = 0 then (some 0) else (some (IntKind.u64.wrap (t150 - (Int.tmod a1 t150))))))
set_option maxHeartbeats 8000000 in
set_option maxRecDepth 100000 in
theorem field_Neg.calls (a0 : Int) (a1 : Int) (r : Int) (w : World) (hG : Fld w) (h : field_Neg.f a0 a1 = some r) :
  Calls Tryd.prog 97 #[.int .i64 a0, .int .u64 a1] w fun e w' => e = .returned (.int .u64 r) ∧ Below w.heap.size w w' := by
 have HG := ak hG
 clear hG
 have HB := ak (Below.refl w.heap.size w)
 have H := h
 clear h
 unfold field_Neg.f at H
 revert H
 refine bd_ fun t150 A3 H => ?_
 by_cases c4 : t150 = 0
 ·rw [if_pos c4] at H
  have c4b0 := beq_iff_eq.mpr c4
  have c4b1 := bne_eq_false_iff_eq.mpr c4
  clear c4
  obtain rfl := Option.some.inj H
  go_enter Tryd.func97, Tryd.ntmps97
  go_wp2_with (first | ((with_reducible refine gate_callee (f := 52) rfl ?_); refine gl_ (some 7) Tryd.func52 #[.int .i64 a0] ?_; (with_reducible refine (field_P.calls a0 t150 _ ?side1 A3.out).mono ?_); (case side1 => exact fU_ HG.out HB.out); rintro e w5 ⟨rfl, hb⟩; refine ⟨_, rfl, ?_⟩; refine nx1_ (below_step (bU_ HB.out) hb) ?_; clear HB; intro HB; clear hb))
  go_ret
  exact ⟨eW_, bU_ HB.out⟩
 rw [if_neg c4] at H
 have c4b0 := beq_eq_false_iff_ne.mpr c4
 have c4b1 := bne_iff_ne.mpr c4
 by_cases c6 : (Int.tmod a1 t150) = 0
 ·rw [if_pos c6] at H
  have c6b0 := beq_iff_eq.mpr c6
  have c6b1 := bne_eq_false_iff_eq.mpr c6
  clear c6
  obtain rfl := Option.some.inj H
  go_enter Tryd.func97, Tryd.ntmps97
  go_wp2_with (first | ((with_reducible refine gate_callee (f := 52) rfl ?_); refine gl_ (some 7) Tryd.func52 #[.int .i64 a0] ?_; (with_reducible refine (field_P.calls a0 t150 _ ?side1 A3.out).mono ?_); (case side1 => exact fU_ HG.out HB.out); rintro e w7 ⟨rfl, hb⟩; refine ⟨_, rfl, ?_⟩; refine nx1_ (below_step (bU_ HB.out) hb) ?_; clear HB; intro HB; clear hb))
  go_ret
  exact ⟨eW_, bU_ HB.out⟩
 rw [if_neg c6] at H
 have c6b0 := beq_eq_false_iff_ne.mpr c6
 have c6b1 := bne_iff_ne.mpr c6
 obtain rfl := Option.some.inj H
 go_enter Tryd.func97, Tryd.ntmps97
 go_wp2_with (first | ((with_reducible refine gate_callee (f := 52) rfl ?_); refine gl_ (some 7) Tryd.func52 #[.int .i64 a0] ?_; (with_reducible refine (field_P.calls a0 t150 _ ?side1 A3.out).mono ?_); (case side1 => exact fU_ HG.out HB.out); rintro e w8 ⟨rfl, hb⟩; refine ⟨_, rfl, ?_⟩; refine nx1_ (below_step (bU_ HB.out) hb) ?_; clear HB; intro HB; clear hb))
 go_ret
 exact ⟨eW_, bU_ HB.out⟩

def field_Sub.f (a0 : Int) (a1 : Int) (a2 : Int) : Option (Int) := (field_Neg.f a0 a2).bind fun t151 => ((field_Add.f a0 a1 t151).bind fun t152 => (some t152))
set_option maxHeartbeats 8000000 in
set_option maxRecDepth 100000 in
theorem field_Sub.calls (a0 : Int) (a1 : Int) (a2 : Int) (r : Int) (w : World) (hG : Fld w) (h : field_Sub.f a0 a1 a2 = some r) :
  Calls Tryd.prog 93 #[.int .i64 a0, .int .u64 a1, .int .u64 a2] w fun e w' => e = .returned (.int .u64 r) ∧ Below w.heap.size w w' := by
 have HG := ak hG
 clear hG
 have HB := ak (Below.refl w.heap.size w)
 have H : ((field_Neg.f a0 a2).bind fun t151 => ((field_Add.f a0 a1 t151).bind fun t152 => (some t152))) = some r := h
 clear h
 revert H
 refine bd_ fun t151 A4 H => ?_
 revert H
 refine bd_ fun t152 A5 H => ?_
 obtain rfl := Option.some.inj H
 go_enter Tryd.func93, Tryd.ntmps93
 go_wp2_with (first | ((with_reducible refine gate_callee (f := 97) rfl ?_); refine gl_ (some 11) Tryd.func97 #[.int .i64 a0, .int .u64 a2] ?_; (with_reducible refine (field_Neg.calls a0 a2 t151 _ ?side1 A4.out).mono ?_); (case side1 => exact fU_ HG.out HB.out); rintro e w6 ⟨rfl, hb⟩; refine ⟨_, rfl, ?_⟩; refine nx1_ (below_step (bU_ HB.out) hb) ?_; clear HB; intro HB; clear hb) | ((with_reducible refine gate_callee (f := 18) rfl ?_); refine gl_ (some 12) Tryd.func18 #[.int .i64 a0, .int .u64 a1, .int .u64 t151] ?_; (with_reducible refine (field_Add.calls a0 a1 t151 t152 _ ?side1 A5.out).mono ?_); (case side1 => exact fU_ HG.out HB.out); rintro e w7 ⟨rfl, hb⟩; refine ⟨_, rfl, ?_⟩; refine nx1_ (below_step (bU_ HB.out) hb) ?_; clear HB; intro HB; clear hb))
 go_ret
 exact ⟨eW_, bU_ HB.out⟩

end Go.Proofs.YthinfmfjpaikiaaDoor.Q

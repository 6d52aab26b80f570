import Derived.Test.YtedapdagagkajaaDoorQ0
namespace Go.Proofs.YtedapdagagkajaaDoor.Q
open Go.RowKit Go.Proofs.YtedapdagagkajaaDoorW.PrintWords Go.Proofs.YtedapdagagkajaaDoorW.PrintLast Go.Proofs.YtedapdagagkajaaDoorW.PrintMore
open Kd (R_below R_mono R_lower R_slice R_reads' R_tight R_make R_drew)
attribute [local go_sem] max2_int min2_int max_two min_two max_three min_three max_four min_four   -- for this text's walks alone
set_option linter.unusedVariables false
set_option linter.unusedSimpArgs false

def field_Valid.f (a0 : Int) : Option (Bool) := if a0 ≥ 0 then (some (decide (a0 < 4))) else (some false)
set_option maxHeartbeats 8000000 in
set_option maxRecDepth 100000 in
theorem field_Valid.calls (a0 : Int) (r : Bool) (w : World) (h : field_Valid.f a0 = some r) :
  Calls Tryd.prog 49 #[.int .i64 a0] w fun e w' => e = .returned (.bool r) ∧ Drawn0 w w' := by
 have H : (if a0 ≥ 0 then (some (decide (a0 < 4))) else (some false)) = some r := h
 clear h
 by_cases c2 : a0 ≥ 0
 ·rw [if_pos c2] at H
  have c2b0 : decide (0 ≤ a0) = true := decide_eq_true c2
  clear c2
  obtain rfl := Option.some.inj H
  go_enter Tryd.func49, Tryd.ntmps49
  go_wp2
  go_ret
  exact ⟨by first | rfl | (simp; done) | (simp [*]; done), by repeat (first | exact Drawn0.refl _ | apply Drawn0.step)⟩
 rw [if_neg c2] at H
 have c2b0 : decide (0 ≤ a0) = false := decide_eq_false c2
 clear c2
 obtain rfl := Option.some.inj H
 go_enter Tryd.func49, Tryd.ntmps49
 go_wp2
 go_ret
 exact ⟨by first | rfl | (simp; done) | (simp [*]; done), by repeat (first | exact Drawn0.refl _ | apply Drawn0.step)⟩


def field_Twos.f (a0 : Int) : Option (Int) := some (tOf a0)
theorem field_Twos.calls (a0 : Int) (r : Int) (w : World) (hG : Fld w) (h : field_Twos.f a0 = some r) :
  Calls Tryd.prog 77 #[.int .i64 a0] w fun e w' => e = .returned (.int .i64 r) ∧ Below w.heap.size w w' := by
 obtain rfl := Option.some.inj h
 clear h
 have hfl := fld2
 go_enter Tryd.func77, Tryd.ntmps77
 go_wp2_with (go_at_call 78; (with_reducible refine (of_any a0 _ hG).mono ?_); rintro e w' ⟨va, vn, vc, rfl, hb⟩)
 go_ret
 exact ⟨rfl, hb⟩

def code_greatest.f (a0 : Int) : Option (Int) := (field_Twos.f a0).bind fun t103 => (some (mn t103 18))
set_option maxHeartbeats 8000000 in
set_option maxRecDepth 100000 in
theorem code_greatest.calls (a0 : Int) (r : Int) (w : World) (hG : Fld w) (h : code_greatest.f a0 = some r) :
  Calls Tryd.prog 50 #[.int .i64 a0] w fun e w' => e = .returned (.int .i64 r) ∧ Below w.heap.size w w' := by
 have HG := ak hG
 clear hG
 have HB := ak (Below.refl w.heap.size w)
 have H : ((field_Twos.f a0).bind fun t103 => (some (mn t103 18))) = some r := h
 clear h
 revert H
 refine bd_ fun t103 A2 H => ?_
 obtain ⟨ji3, hji3⟩ : ∃ j_ : Int, (mn t103 18) = j_ := ⟨_, rfl⟩
 first | rw [hji3] at H | simp only [hji3] at H
 (try rw [hji3] at A2)
 (try (have hji3h : ji3 ≤ 18 := by (rw [← hji3]; unfold mn; (repeat' split) <;> omega)))
 (try (have hji3g : ji3 ≤ 64 := by omega))
 have hji3_ : (if 18 < t103 then 18 else t103) = ji3 := hji3
 obtain rfl := Option.some.inj H
 go_enter Tryd.func50, Tryd.ntmps50
 go_wp2_with (first | ((with_reducible refine gate_callee (f := 77) rfl ?_); refine gl_ (some 4) Tryd.func77 #[.int .i64 a0] ?_; (with_reducible refine (field_Twos.calls a0 t103 _ ?side1 A2.out).mono ?_); (case side1 => exact fU_ HG.out HB.out); rintro e w4 ⟨rfl, hb⟩; refine ⟨_, rfl, ?_⟩; refine nx1_ (below_step (bU_ HB.out) hb) ?_; clear HB; intro HB; clear hb))
 go_ret
 exact ⟨by first | rfl | (simp [errW_none, errW_some] <;> rfl) | (simp only [← hji3]; first | rfl | (simp [errW_none, errW_some] <;> rfl)) | (simp [*, errW_none, errW_some] <;> rfl), bU_ HB.out⟩

def field_P.f (a0 : Int) : Option (Int) := some (pOf a0)
theorem field_P.calls (a0 : Int) (r : Int) (w : World) (hG : Fld w) (h : field_P.f a0 = some r) :
  Calls Tryd.prog 51 #[.int .i64 a0] w fun e w' => e = .returned (.int .u64 r) ∧ Below w.heap.size w w' := by
 obtain rfl := Option.some.inj h
 clear h
 have hfl := fld0
 go_enter Tryd.func51, Tryd.ntmps51
 go_wp2_with (go_at_call 78; (with_reducible refine (of_any a0 _ hG).mono ?_); rintro e w' ⟨va, vn, vc, rfl, hb⟩)
 go_ret
 exact ⟨rfl, hb⟩

def code_Valid.f (a0_0 : Int) (a0_1 : Int) (a0_2 : Int) : Option (Bool) := (field_Valid.f a0_0).bind fun t105 => (if t105 = true then (if a0_1 ≥ 0 then ((code_greatest.f a0_0).bind fun t106 => (if a0_1 ≤ t106 then (if a0_2 > 0 then ((field_P.f a0_0).bind fun t107 => (some (decide (a0_2 < t107)))) else (some false)) else (some false))) else (some false)) else (some false))
def code_Valid.T1 : Bool × List (List Nat × List Nat) := (true, [([], []), ([0], [0]), ([1], [1]), ([2, 2], [2]), ([3], [3]), ([4, 3], [3, 4]), ([5, 3], [3, 5]), ([3, 6], [3, 6]), ([7, 3], [7]), ([8], [8]), ([9, 8], [8, 9]), ([8], [8]), ([11, 8], [8, 11]), ([12, 8, 8], [8, 12]), ([10, 13, 8], [8, 10, 13]), ([8, 14], [8, 14]), ([15, 13], [15]), ([16], [16]), ([17, 16], [16, 17]), ([18, 16], [16, 18]), ([16, 19], [16, 19]), ([20, 16], [20]), ([21], [21]), ([22, 21], [21, 22]), ([21], [21]), ([24, 21], [21, 24]), ([25, 21, 21], [21, 25]), ([23, 26, 21], [21, 23, 26]), ([21, 27], [21, 27]), ([28, 26, 0, 1, 2, 3, 4, 5, 6, 7, 8, 9, 10, 11, 12, 13, 14, 15, 16, 17, 18, 19, 20, 21, 22, 23, 24, 25, 26, 27, 28], [28])])
def code_Valid.B1 : List Nat := [0, 1, 3, 7, 15, 31, 63, 127, 255, 511, 1023, 511, 2559, 6655, 16383, 32767, 65535, 131071, 262143, 524287, 1048575, 2097151, 4194303, 8388607, 4194303, 20971519, 54525951, 134217727, 268435455, 536870911]
theorem code_Valid.tab1 : rtab .any (opsOf Tryd.f11 1) = code_Valid.T1 := by kernel_rfl
theorem code_Valid.bits1 : waitsOk code_Valid.T1.2 code_Valid.B1 = true := by kernel_rfl
set_option maxHeartbeats 8000000 in
set_option maxRecDepth 100000 in
theorem code_Valid.calls (a0_0 : Int) (a0_1 : Int) (a0_2 : Int) (r : Bool) (w : World) (hG : Fld w) (h : code_Valid.f a0_0 a0_1 a0_2 = some r) :
  Calls Tryd.prog 11 #[.agg #[.int .i64 a0_0, .int .i64 a0_1, .int .u64 a0_2]] w fun e w' => e = .returned (.bool r) ∧ Below w.heap.size w w' := by
 have hu24 := Tryd.underlying24
 have HG := ak hG
 clear hG
 have HB := ak (Below.refl w.heap.size w)
 have H := h
 clear h
 unfold code_Valid.f at H
 revert H
 refine bd_ fun t105 A2 H => ?_
 by_cases c3 : t105 = true
 ·subst c3
  rw [if_pos rfl] at H
  by_cases c4 : a0_1 ≥ 0
  ·rw [if_pos c4] at H
   have c4b0 : decide (0 ≤ a0_1) = true := decide_eq_true c4
   clear c4
   revert H
   refine bd_ fun t106 A5 H => ?_
   by_cases c6 : a0_1 ≤ t106
   ·rw [if_pos c6] at H
    have c6b0 := decide_eq_true c6
    clear c6
    by_cases c7 : a0_2 > 0
    ·rw [if_pos c7] at H
     have c7b0 : decide (0 < a0_2) = true := decide_eq_true c7
     clear c7
     revert H
     refine bd_ fun t107 A8 H => ?_
     obtain rfl := Option.some.inj H
     go_enter Tryd.func11, Tryd.ntmps11
     try go_wp2_with (first | ((with_reducible refine gate_dst (N := 1) rfl ?_); refine bx_ 1 24 #[.int .i64 a0_0, .int .i64 a0_1, .int .u64 a0_2] ?_; intro gb104 hg w9 hbox hb; refine nx4_ (below_step (bU_ HB.out) hb) (hbox) ((hs_ hg (below_size (bU_ HB.out)))) ((hs_ hg (below_size (bU_ HB.out)))) ?_; clear HB; intro HB BK104 GW104 GE104; clear hb hbox hg))
     refine nx2_ (blk_drew BK104.out) (below_drew1 HB.out) ?_
     clear BK104 HB
     intro BK104 HB
     refine start_ (n := 30) (S := fun w' => w'.cell? ⟨gb104, 0, none⟩ = some (.int .i64 a0_0) ∧ w'.cell? ⟨gb104, 1, none⟩ = some (.int .i64 a0_1) ∧ w'.cell? ⟨gb104, 2, none⟩ = some (.int .u64 a0_2)) (ds := []) (bv 30 0) (by kernel_rfl) rfl rfl ⟨bc0_ BK104.out, bc1_ BK104.out, bc2_ BK104.out⟩ (fun hHeld => ?_); refine with_tabW code_Valid.tab1 code_Valid.bits1 (fun HT_ HW_ => ?_)
     generalize w9.drew = w10 at BK104 HB hHeld ⊢
     refine pq_ 0 3 30 1 HT_.out ?_
     refine tq_ 1 4 30 3 HT_.out HW_.out hHeld ?_
     refine oq_ 2 5 30 7 HT_.out fun K hK => ?_
     refine gs_ Tryd.func49 #[.int .i64 a0_0] ?_
     with_reducible refine (field_Valid.calls a0_0 true _ A2.out).mono ?_
     rintro e w' ⟨rfl, ⟨nd, rfl⟩⟩
     refine ⟨_, rfl, ?_⟩
     refine hK.out _ _ ⟨bc0_ BK104.out, bc1_ BK104.out, bc2_ BK104.out⟩ (fun hHeld => ?_)
     clear hK K
     refine norm_ (a' := ?_) ?_ ?_
     rotate_left
     ·show Act.put _ (some 5) _ = _
      simp only [Act.put, s1_, s2_, s3_, i64_w, i32_w]
      rfl
     refine pq_ 3 6 30 15 HT_.out ?_
     refine pq_ 4 7 30 31 HT_.out ?_
     refine tq_ 5 8 30 63 HT_.out HW_.out hHeld ?_
     refine pq_ 6 9 30 127 HT_.out ?_
     refine pq_ 7 10 30 255 HT_.out ?_
     refine pq_ 8 11 30 511 HT_.out ?_
     refine pq_ 9 12 30 1023 HT_.out ?_
     refine pq_ 11 14 30 3071 HT_.out ?_
     refine tq_ 10 13 30 4095 HT_.out HW_.out hHeld ?_
     refine tq_ 12 15 30 8191 HT_.out HW_.out hHeld ?_
     refine oq_ 13 16 30 16383 HT_.out fun K hK => ?_
     refine gs_ Tryd.func50 #[.int .i64 a0_0] ?_
     with_reducible refine (code_greatest.calls a0_0 t106 _ ?side1 A5.out).mono ?_
     (case side1 => repeat (first | with_reducible exact HG.out | with_reducible exact (Fld.below HG.out HB.out) | exact (Fld.below HG.out sU_) | (with_reducible refine Fld.alloc ?_ _) | (with_reducible refine Fld.drewN ?_ _) | (with_reducible refine Fld.drew ?_)))
     rintro e w11 ⟨rfl, hb⟩
     refine ⟨_, rfl, ?_⟩
     refine nx2_ (blk_below (kU_ BK104.out) hb) (below_step sU_ hb) ?_
     clear BK104 HB
     intro BK104 HB
     (try clear hb)
     (try clear hb2)
     (try clear hk)
     (try clear hi)
     refine hK.out _ _ ⟨bc0_ BK104.out, bc1_ BK104.out, bc2_ BK104.out⟩ (fun hHeld => ?_)
     clear hK K
     refine norm_ (a' := ?_) ?_ ?_
     rotate_left
     ·show Act.put _ (some 16) _ = _
      simp only [Act.put, s1_, s2_, s3_, i64_w, i32_w]
      rfl
     refine pq_ 14 17 30 32767 HT_.out ?_
     refine pq_ 15 18 30 65535 HT_.out ?_
     refine pq_ 16 19 30 131071 HT_.out ?_
     refine pq_ 17 20 30 262143 HT_.out ?_
     refine tq_ 18 21 30 524287 HT_.out HW_.out hHeld ?_
     refine pq_ 19 22 30 1048575 HT_.out ?_
     refine pq_ 20 23 30 2097151 HT_.out ?_
     refine pq_ 21 24 30 4194303 HT_.out ?_
     refine pq_ 22 25 30 8388607 HT_.out ?_
     refine pq_ 24 27 30 25165823 HT_.out ?_
     refine tq_ 23 26 30 33554431 HT_.out HW_.out hHeld ?_
     refine tq_ 25 28 30 67108863 HT_.out HW_.out hHeld ?_
     refine oq_ 26 29 30 134217727 HT_.out fun K hK => ?_
     refine gs_ Tryd.func51 #[.int .i64 a0_0] ?_
     with_reducible refine (field_P.calls a0_0 t107 _ ?side1 A8.out).mono ?_
     (case side1 => repeat (first | with_reducible exact HG.out | with_reducible exact (Fld.below HG.out HB.out) | exact (Fld.below HG.out sU_) | (with_reducible refine Fld.alloc ?_ _) | (with_reducible refine Fld.drewN ?_ _) | (with_reducible refine Fld.drew ?_)))
     rintro e w12 ⟨rfl, hb⟩
     refine ⟨_, rfl, ?_⟩
     refine nx2_ (blk_below (kU_ BK104.out) hb) (below_step sU_ hb) ?_
     clear BK104 HB
     intro BK104 HB
     (try clear hb)
     (try clear hb2)
     (try clear hk)
     (try clear hi)
     refine hK.out _ _ ⟨bc0_ BK104.out, bc1_ BK104.out, bc2_ BK104.out⟩ (fun hHeld => ?_)
     clear hK K
     refine norm_ (a' := ?_) ?_ ?_
     rotate_left
     ·show Act.put _ (some 29) _ = _
      simp only [Act.put, s1_, s2_, s3_, i64_w, i32_w]
      rfl
     refine pq_ 27 30 30 268435455 HT_.out ?_
     refine pq_ 28 31 30 536870911 HT_.out ?_
     refine pq_ 29 2 30 1073741823 HT_.out ?_
     refine done_ (done_of HT_.out (by kernel_rfl)) ?_
     try go_wp2
     go_ret
     exact ⟨eW_, sU_⟩
    rw [if_neg c7] at H
    have c7b0 : decide (0 < a0_2) = false := decide_eq_false c7
    clear c7
    obtain rfl := Option.some.inj H
    go_enter Tryd.func11, Tryd.ntmps11
    try go_wp2_with (first | ((with_reducible refine gate_dst (N := 1) rfl ?_); refine bx_ 1 24 #[.int .i64 a0_0, .int .i64 a0_1, .int .u64 a0_2] ?_; intro gb104 hg w13 hbox hb; refine nx4_ (below_step (bU_ HB.out) hb) (hbox) ((hs_ hg (below_size (bU_ HB.out)))) ((hs_ hg (below_size (bU_ HB.out)))) ?_; clear HB; intro HB BK104 GW104 GE104; clear hb hbox hg))
    refine nx2_ (blk_drew BK104.out) (below_drew1 HB.out) ?_
    clear BK104 HB
    intro BK104 HB
    refine start_ (n := 30) (S := fun w' => w'.cell? ⟨gb104, 0, none⟩ = some (.int .i64 a0_0) ∧ w'.cell? ⟨gb104, 1, none⟩ = some (.int .i64 a0_1) ∧ w'.cell? ⟨gb104, 2, none⟩ = some (.int .u64 a0_2)) (ds := []) (bv 30 0) (by kernel_rfl) rfl rfl ⟨bc0_ BK104.out, bc1_ BK104.out, bc2_ BK104.out⟩ (fun hHeld => ?_); refine with_tabW code_Valid.tab1 code_Valid.bits1 (fun HT_ HW_ => ?_)
    generalize w13.drew = w14 at BK104 HB hHeld ⊢
    refine pq_ 0 3 30 1 HT_.out ?_
    refine tq_ 1 4 30 3 HT_.out HW_.out hHeld ?_
    refine oq_ 2 5 30 7 HT_.out fun K hK => ?_
    refine gs_ Tryd.func49 #[.int .i64 a0_0] ?_
    with_reducible refine (field_Valid.calls a0_0 true _ A2.out).mono ?_
    rintro e w' ⟨rfl, ⟨nd, rfl⟩⟩
    refine ⟨_, rfl, ?_⟩
    refine hK.out _ _ ⟨bc0_ BK104.out, bc1_ BK104.out, bc2_ BK104.out⟩ (fun hHeld => ?_)
    clear hK K
    refine norm_ (a' := ?_) ?_ ?_
    rotate_left
    ·show Act.put _ (some 5) _ = _
     simp only [Act.put, s1_, s2_, s3_, i64_w, i32_w]
     rfl
    refine pq_ 3 6 30 15 HT_.out ?_
    refine pq_ 4 7 30 31 HT_.out ?_
    refine tq_ 5 8 30 63 HT_.out HW_.out hHeld ?_
    refine pq_ 6 9 30 127 HT_.out ?_
    refine pq_ 7 10 30 255 HT_.out ?_
    refine pq_ 8 11 30 511 HT_.out ?_
    refine pq_ 9 12 30 1023 HT_.out ?_
    refine pq_ 11 14 30 3071 HT_.out ?_
    refine tq_ 10 13 30 4095 HT_.out HW_.out hHeld ?_
    refine tq_ 12 15 30 8191 HT_.out HW_.out hHeld ?_
    refine oq_ 13 16 30 16383 HT_.out fun K hK => ?_
    refine gs_ Tryd.func50 #[.int .i64 a0_0] ?_
    with_reducible refine (code_greatest.calls a0_0 t106 _ ?side1 A5.out).mono ?_
    (case side1 => repeat (first | with_reducible exact HG.out | with_reducible exact (Fld.below HG.out HB.out) | exact (Fld.below HG.out sU_) | (with_reducible refine Fld.alloc ?_ _) | (with_reducible refine Fld.drewN ?_ _) | (with_reducible refine Fld.drew ?_)))
    rintro e w15 ⟨rfl, hb⟩
    refine ⟨_, rfl, ?_⟩
    refine nx2_ (blk_below (kU_ BK104.out) hb) (below_step sU_ hb) ?_
    clear BK104 HB
    intro BK104 HB
    (try clear hb)
    (try clear hb2)
    (try clear hk)
    (try clear hi)
    refine hK.out _ _ ⟨bc0_ BK104.out, bc1_ BK104.out, bc2_ BK104.out⟩ (fun hHeld => ?_)
    clear hK K
    refine norm_ (a' := ?_) ?_ ?_
    rotate_left
    ·show Act.put _ (some 16) _ = _
     simp only [Act.put, s1_, s2_, s3_, i64_w, i32_w]
     rfl
    refine pq_ 14 17 30 32767 HT_.out ?_
    refine pq_ 15 18 30 65535 HT_.out ?_
    refine pq_ 16 19 30 131071 HT_.out ?_
    refine pq_ 17 20 30 262143 HT_.out ?_
    refine tq_ 18 21 30 524287 HT_.out HW_.out hHeld ?_
    refine pq_ 19 22 30 1048575 HT_.out ?_
    refine pq_ 20 23 30 2097151 HT_.out ?_
    refine pq_ 21 24 30 4194303 HT_.out ?_
    refine uq_ 22 25 30 8388607 HT_.out ?_
    refine uq_ 23 26 30 16777215 HT_.out ?_
    refine uq_ 24 27 30 33554431 HT_.out ?_
    refine uq_ 25 28 30 67108863 HT_.out ?_
    refine uq_ 26 29 30 134217727 HT_.out ?_
    refine uq_ 27 30 30 268435455 HT_.out ?_
    refine pq_ 28 31 30 536870911 HT_.out ?_
    refine pq_ 29 2 30 1073741823 HT_.out ?_
    refine done_ (done_of HT_.out (by kernel_rfl)) ?_
    try go_wp2
    go_ret
    exact ⟨eW_, sU_⟩
   rw [if_neg c6] at H
   have c6b0 := decide_eq_false c6
   clear c6
   obtain rfl := Option.some.inj H
   go_enter Tryd.func11, Tryd.ntmps11
   try go_wp2_with (first | ((with_reducible refine gate_dst (N := 1) rfl ?_); refine bx_ 1 24 #[.int .i64 a0_0, .int .i64 a0_1, .int .u64 a0_2] ?_; intro gb104 hg w16 hbox hb; refine nx4_ (below_step (bU_ HB.out) hb) (hbox) ((hs_ hg (below_size (bU_ HB.out)))) ((hs_ hg (below_size (bU_ HB.out)))) ?_; clear HB; intro HB BK104 GW104 GE104; clear hb hbox hg))
   refine nx2_ (blk_drew BK104.out) (below_drew1 HB.out) ?_
   clear BK104 HB
   intro BK104 HB
   refine start_ (n := 30) (S := fun w' => w'.cell? ⟨gb104, 0, none⟩ = some (.int .i64 a0_0) ∧ w'.cell? ⟨gb104, 1, none⟩ = some (.int .i64 a0_1) ∧ w'.cell? ⟨gb104, 2, none⟩ = some (.int .u64 a0_2)) (ds := []) (bv 30 0) (by kernel_rfl) rfl rfl ⟨bc0_ BK104.out, bc1_ BK104.out, bc2_ BK104.out⟩ (fun hHeld => ?_); refine with_tabW code_Valid.tab1 code_Valid.bits1 (fun HT_ HW_ => ?_)
   generalize w16.drew = w17 at BK104 HB hHeld ⊢
   refine pq_ 0 3 30 1 HT_.out ?_
   refine tq_ 1 4 30 3 HT_.out HW_.out hHeld ?_
   refine oq_ 2 5 30 7 HT_.out fun K hK => ?_
   refine gs_ Tryd.func49 #[.int .i64 a0_0] ?_
   with_reducible refine (field_Valid.calls a0_0 true _ A2.out).mono ?_
   rintro e w' ⟨rfl, ⟨nd, rfl⟩⟩
   refine ⟨_, rfl, ?_⟩
   refine hK.out _ _ ⟨bc0_ BK104.out, bc1_ BK104.out, bc2_ BK104.out⟩ (fun hHeld => ?_)
   clear hK K
   refine norm_ (a' := ?_) ?_ ?_
   rotate_left
   ·show Act.put _ (some 5) _ = _
    simp only [Act.put, s1_, s2_, s3_, i64_w, i32_w]
    rfl
   refine pq_ 3 6 30 15 HT_.out ?_
   refine pq_ 4 7 30 31 HT_.out ?_
   refine tq_ 5 8 30 63 HT_.out HW_.out hHeld ?_
   refine pq_ 6 9 30 127 HT_.out ?_
   refine pq_ 7 10 30 255 HT_.out ?_
   refine pq_ 8 11 30 511 HT_.out ?_
   refine pq_ 9 12 30 1023 HT_.out ?_
   refine pq_ 11 14 30 3071 HT_.out ?_
   refine tq_ 10 13 30 4095 HT_.out HW_.out hHeld ?_
   refine tq_ 12 15 30 8191 HT_.out HW_.out hHeld ?_
   refine oq_ 13 16 30 16383 HT_.out fun K hK => ?_
   refine gs_ Tryd.func50 #[.int .i64 a0_0] ?_
   with_reducible refine (code_greatest.calls a0_0 t106 _ ?side1 A5.out).mono ?_
   (case side1 => repeat (first | with_reducible exact HG.out | with_reducible exact (Fld.below HG.out HB.out) | exact (Fld.below HG.out sU_) | (with_reducible refine Fld.alloc ?_ _) | (with_reducible refine Fld.drewN ?_ _) | (with_reducible refine Fld.drew ?_)))
   rintro e w18 ⟨rfl, hb⟩
   refine ⟨_, rfl, ?_⟩
   refine nx2_ (blk_below (kU_ BK104.out) hb) (below_step sU_ hb) ?_
   clear BK104 HB
   intro BK104 HB
   (try clear hb)
   (try clear hb2)
   (try clear hk)
   (try clear hi)
   refine hK.out _ _ ⟨bc0_ BK104.out, bc1_ BK104.out, bc2_ BK104.out⟩ (fun hHeld => ?_)
   clear hK K
   refine norm_ (a' := ?_) ?_ ?_
   rotate_left
   ·show Act.put _ (some 16) _ = _
    simp only [Act.put, s1_, s2_, s3_, i64_w, i32_w]
    rfl
   refine pq_ 14 17 30 32767 HT_.out ?_
   refine pq_ 15 18 30 65535 HT_.out ?_
   refine pq_ 16 19 30 131071 HT_.out ?_
   refine uq_ 17 20 30 262143 HT_.out ?_
   refine uq_ 18 21 30 524287 HT_.out ?_
   refine uq_ 19 22 30 1048575 HT_.out ?_
   refine pq_ 20 23 30 2097151 HT_.out ?_
   refine pq_ 21 24 30 4194303 HT_.out ?_
   refine uq_ 22 25 30 8388607 HT_.out ?_
   refine uq_ 23 26 30 16777215 HT_.out ?_
   refine uq_ 24 27 30 33554431 HT_.out ?_
   refine uq_ 25 28 30 67108863 HT_.out ?_
   refine uq_ 26 29 30 134217727 HT_.out ?_
   refine uq_ 27 30 30 268435455 HT_.out ?_
   refine pq_ 28 31 30 536870911 HT_.out ?_
   refine pq_ 29 2 30 1073741823 HT_.out ?_
   refine done_ (done_of HT_.out (by kernel_rfl)) ?_
   try go_wp2
   go_ret
   exact ⟨eW_, sU_⟩
  rw [if_neg c4] at H
  have c4b0 : decide (0 ≤ a0_1) = false := decide_eq_false c4
  clear c4
  obtain rfl := Option.some.inj H
  go_enter Tryd.func11, Tryd.ntmps11
  try go_wp2_with (first | ((with_reducible refine gate_dst (N := 1) rfl ?_); refine bx_ 1 24 #[.int .i64 a0_0, .int .i64 a0_1, .int .u64 a0_2] ?_; intro gb104 hg w19 hbox hb; refine nx4_ (below_step (bU_ HB.out) hb) (hbox) ((hs_ hg (below_size (bU_ HB.out)))) ((hs_ hg (below_size (bU_ HB.out)))) ?_; clear HB; intro HB BK104 GW104 GE104; clear hb hbox hg))
  refine nx2_ (blk_drew BK104.out) (below_drew1 HB.out) ?_
  clear BK104 HB
  intro BK104 HB
  refine start_ (n := 30) (S := fun w' => w'.cell? ⟨gb104, 0, none⟩ = some (.int .i64 a0_0) ∧ w'.cell? ⟨gb104, 1, none⟩ = some (.int .i64 a0_1) ∧ w'.cell? ⟨gb104, 2, none⟩ = some (.int .u64 a0_2)) (ds := []) (bv 30 0) (by kernel_rfl) rfl rfl ⟨bc0_ BK104.out, bc1_ BK104.out, bc2_ BK104.out⟩ (fun hHeld => ?_); refine with_tabW code_Valid.tab1 code_Valid.bits1 (fun HT_ HW_ => ?_)
  generalize w19.drew = w20 at BK104 HB hHeld ⊢
  refine pq_ 0 3 30 1 HT_.out ?_
  refine tq_ 1 4 30 3 HT_.out HW_.out hHeld ?_
  refine oq_ 2 5 30 7 HT_.out fun K hK => ?_
  refine gs_ Tryd.func49 #[.int .i64 a0_0] ?_
  with_reducible refine (field_Valid.calls a0_0 true _ A2.out).mono ?_
  rintro e w' ⟨rfl, ⟨nd, rfl⟩⟩
  refine ⟨_, rfl, ?_⟩
  refine hK.out _ _ ⟨bc0_ BK104.out, bc1_ BK104.out, bc2_ BK104.out⟩ (fun hHeld => ?_)
  clear hK K
  refine norm_ (a' := ?_) ?_ ?_
  rotate_left
  ·show Act.put _ (some 5) _ = _
   simp only [Act.put, s1_, s2_, s3_, i64_w, i32_w]
   rfl
  refine pq_ 3 6 30 15 HT_.out ?_
  refine pq_ 4 7 30 31 HT_.out ?_
  refine tq_ 5 8 30 63 HT_.out HW_.out hHeld ?_
  refine pq_ 6 9 30 127 HT_.out ?_
  refine pq_ 7 10 30 255 HT_.out ?_
  refine pq_ 8 11 30 511 HT_.out ?_
  refine uq_ 9 12 30 1023 HT_.out ?_
  refine uq_ 10 13 30 2047 HT_.out ?_
  refine uq_ 11 14 30 4095 HT_.out ?_
  refine uq_ 12 15 30 8191 HT_.out ?_
  refine uq_ 13 16 30 16383 HT_.out ?_
  refine uq_ 14 17 30 32767 HT_.out ?_
  refine pq_ 15 18 30 65535 HT_.out ?_
  refine pq_ 16 19 30 131071 HT_.out ?_
  refine uq_ 17 20 30 262143 HT_.out ?_
  refine uq_ 18 21 30 524287 HT_.out ?_
  refine uq_ 19 22 30 1048575 HT_.out ?_
  refine pq_ 20 23 30 2097151 HT_.out ?_
  refine pq_ 21 24 30 4194303 HT_.out ?_
  refine uq_ 22 25 30 8388607 HT_.out ?_
  refine uq_ 23 26 30 16777215 HT_.out ?_
  refine uq_ 24 27 30 33554431 HT_.out ?_
  refine uq_ 25 28 30 67108863 HT_.out ?_
  refine uq_ 26 29 30 134217727 HT_.out ?_
  refine uq_ 27 30 30 268435455 HT_.out ?_
  refine pq_ 28 31 30 536870911 HT_.out ?_
  refine pq_ 29 2 30 1073741823 HT_.out ?_
  refine done_ (done_of HT_.out (by kernel_rfl)) ?_
  try go_wp2
  go_ret
  exact ⟨eW_, sU_⟩
 replace c3 := Bool.eq_false_iff.mpr c3
 subst c3
 rw [if_neg (show ¬ (false = true) by decide)] at H
 obtain rfl := Option.some.inj H
 go_enter Tryd.func11, Tryd.ntmps11
 try go_wp2_with (first | ((with_reducible refine gate_dst (N := 1) rfl ?_); refine bx_ 1 24 #[.int .i64 a0_0, .int .i64 a0_1, .int .u64 a0_2] ?_; intro gb104 hg w21 hbox hb; refine nx4_ (below_step (bU_ HB.out) hb) (hbox) ((hs_ hg (below_size (bU_ HB.out)))) ((hs_ hg (below_size (bU_ HB.out)))) ?_; clear HB; intro HB BK104 GW104 GE104; clear hb hbox hg))
 refine nx2_ (blk_drew BK104.out) (below_drew1 HB.out) ?_
 clear BK104 HB
 intro BK104 HB
 refine start_ (n := 30) (S := fun w' => w'.cell? ⟨gb104, 0, none⟩ = some (.int .i64 a0_0) ∧ w'.cell? ⟨gb104, 1, none⟩ = some (.int .i64 a0_1) ∧ w'.cell? ⟨gb104, 2, none⟩ = some (.int .u64 a0_2)) (ds := []) (bv 30 0) (by kernel_rfl) rfl rfl ⟨bc0_ BK104.out, bc1_ BK104.out, bc2_ BK104.out⟩ (fun hHeld => ?_); refine with_tabW code_Valid.tab1 code_Valid.bits1 (fun HT_ HW_ => ?_)
 generalize w21.drew = w22 at BK104 HB hHeld ⊢
 refine pq_ 0 3 30 1 HT_.out ?_
 refine tq_ 1 4 30 3 HT_.out HW_.out hHeld ?_
 refine oq_ 2 5 30 7 HT_.out fun K hK => ?_
 refine gs_ Tryd.func49 #[.int .i64 a0_0] ?_
 with_reducible refine (field_Valid.calls a0_0 false _ A2.out).mono ?_
 rintro e w' ⟨rfl, ⟨nd, rfl⟩⟩
 refine ⟨_, rfl, ?_⟩
 refine hK.out _ _ ⟨bc0_ BK104.out, bc1_ BK104.out, bc2_ BK104.out⟩ (fun hHeld => ?_)
 clear hK K
 refine norm_ (a' := ?_) ?_ ?_
 rotate_left
 ·show Act.put _ (some 5) _ = _
  simp only [Act.put, s1_, s2_, s3_, i64_w, i32_w]
  rfl
 refine pq_ 3 6 30 15 HT_.out ?_
 refine uq_ 4 7 30 31 HT_.out ?_
 refine uq_ 5 8 30 63 HT_.out ?_
 refine uq_ 6 9 30 127 HT_.out ?_
 refine pq_ 7 10 30 255 HT_.out ?_
 refine pq_ 8 11 30 511 HT_.out ?_
 refine uq_ 9 12 30 1023 HT_.out ?_
 refine uq_ 10 13 30 2047 HT_.out ?_
 refine uq_ 11 14 30 4095 HT_.out ?_
 refine uq_ 12 15 30 8191 HT_.out ?_
 refine uq_ 13 16 30 16383 HT_.out ?_
 refine uq_ 14 17 30 32767 HT_.out ?_
 refine pq_ 15 18 30 65535 HT_.out ?_
 refine pq_ 16 19 30 131071 HT_.out ?_
 refine uq_ 17 20 30 262143 HT_.out ?_
 refine uq_ 18 21 30 524287 HT_.out ?_
 refine uq_ 19 22 30 1048575 HT_.out ?_
 refine pq_ 20 23 30 2097151 HT_.out ?_
 refine pq_ 21 24 30 4194303 HT_.out ?_
 refine uq_ 22 25 30 8388607 HT_.out ?_
 refine uq_ 23 26 30 16777215 HT_.out ?_
 refine uq_ 24 27 30 33554431 HT_.out ?_
 refine uq_ 25 28 30 67108863 HT_.out ?_
 refine uq_ 26 29 30 134217727 HT_.out ?_
 refine uq_ 27 30 30 268435455 HT_.out ?_
 refine pq_ 28 31 30 536870911 HT_.out ?_
 refine pq_ 29 2 30 1073741823 HT_.out ?_
 refine done_ (done_of HT_.out (by kernel_rfl)) ?_
 try go_wp2
 go_ret
 exact ⟨eW_, sU_⟩

def code_Size.f (a0_0 : Int) (a0_1 : Int) (a0_2 : Int) : Option (Int) := (code_Valid.f a0_0 a0_1 a0_2).bind fun t114 => (if t114 = true then (if 0 ≤ a0_1 then (some (shl .i64 1 a0_1)) else (none)) else (some 0))
set_option maxHeartbeats 8000000 in
set_option maxRecDepth 100000 in
theorem code_Size.calls (a0_0 : Int) (a0_1 : Int) (a0_2 : Int) (r : Int) (w : World) (hG : Fld w) (h : code_Size.f a0_0 a0_1 a0_2 = some r) :
  Calls Tryd.prog 13 #[.agg #[.int .i64 a0_0, .int .i64 a0_1, .int .u64 a0_2]] w fun e w' => e = .returned (.int .i64 r) ∧ Below w.heap.size w w' := by
 have hu24 := Tryd.underlying24
 have HG := ak hG
 clear hG
 have HB := ak (Below.refl w.heap.size w)
 have H := h
 clear h
 unfold code_Size.f at H
 revert H
 refine bd_ fun t114 A2 H => ?_
 by_cases c3 : t114 = true
 ·subst c3
  rw [if_pos rfl] at H
  obtain ⟨c4, H⟩ : (0 ≤ a0_1) ∧ _ := it_ H
  have c4b0 := eq_true c4
  have c4b1 := decide_eq_true c4
  clear c4
  obtain ⟨ji5, hji5⟩ : ∃ j_ : Int, (shl .i64 1 a0_1) = j_ := ⟨_, rfl⟩
  first | rw [hji5] at H | simp only [hji5] at H
  (try rw [hji5] at A2)
  have hji5_ : (IntKind.i64.wrap (1 * 2 ^ min a0_1.toNat 64)) = ji5 := hji5
  have hji5z : a0_1 ≤ 64 → (IntKind.i64.wrap (1 * 2 ^ a0_1.toNat)) = ji5 := shl_small hji5
  have hji5u : (IntKind.i64.wrap (2 ^ min a0_1.toNat 64)) = ji5 := by have h_ := hji5_; rw [Int.one_mul] at h_; exact h_
  have hji5v : a0_1 ≤ 64 → (IntKind.i64.wrap (2 ^ a0_1.toNat)) = ji5 := fun hle_ => by have h_ := hji5z hle_; rw [Int.one_mul] at h_; exact h_
  have hji5y : (wrap64 (1 * 2 ^ min a0_1.toNat 64)) = ji5 := (i64_w _).symm.trans hji5_
  have hji5x : a0_1 ≤ 64 → (wrap64 (1 * 2 ^ a0_1.toNat)) = ji5 := fun h_ => (i64_w _).symm.trans (hji5z h_)
  obtain rfl := Option.some.inj H
  go_enter Tryd.func13, Tryd.ntmps13
  go_wp2_with (first | ((with_reducible refine gate_dst (N := 1) rfl ?_); refine bx_ 1 24 #[.int .i64 a0_0, .int .i64 a0_1, .int .u64 a0_2] ?_; intro gb113 hg w6 hbox hb; refine nx4_ (below_step (bU_ HB.out) hb) (hbox) ((hs_ hg (below_size (bU_ HB.out)))) ((hs_ hg (below_size (bU_ HB.out)))) ?_; clear HB; intro HB BK113 GW113 GE113; clear hb hbox hg; have hcz7_0 := bc0_ BK113.out; have hcz7_1 := bc1_ BK113.out; have hcz7_2 := bc2_ BK113.out; have hfz7_0 := blk_frozen BK113.out 0; have hfz7_1 := blk_frozen BK113.out 1; have hfz7_2 := blk_frozen BK113.out 2) | ((with_reducible refine gate_callee (f := 11) rfl ?_); refine gl_ (some 4) Tryd.func11 #[.agg #[.int .i64 a0_0, .int .i64 a0_1, .int .u64 a0_2]] ?_; (with_reducible refine (code_Valid.calls a0_0 a0_1 a0_2 true _ ?side1 A2.out).mono ?_); (case side1 => repeat (first | with_reducible exact HG.out | with_reducible exact (Fld.below HG.out HB.out) | exact (Fld.below HG.out sU_) | (with_reducible refine Fld.alloc ?_ _) | (with_reducible refine Fld.drewN ?_ _) | (with_reducible refine Fld.drew ?_))); rintro e w8 ⟨rfl, hb⟩; refine ⟨_, rfl, ?_⟩; refine nx2_ (blk_below (kU_ BK113.out) hb) (below_step sU_ hb) ?_; clear BK113 HB; intro BK113 HB; clear hb; have hcz9_0 := bc0_ BK113.out; have hcz9_1 := bc1_ BK113.out; have hcz9_2 := bc2_ BK113.out; have hfz9_0 := blk_frozen BK113.out 0; have hfz9_1 := blk_frozen BK113.out 1; have hfz9_2 := blk_frozen BK113.out 2))
  go_ret
  exact ⟨by first | rfl | (simp [errW_none, errW_some] <;> rfl) | (simp only [← hji5]; first | rfl | (simp [errW_none, errW_some] <;> rfl)) | (simp [*, errW_none, errW_some] <;> rfl), sU_⟩
 replace c3 := Bool.eq_false_iff.mpr c3
 subst c3
 rw [if_neg (show ¬ (false = true) by decide)] at H
 obtain rfl := Option.some.inj H
 go_enter Tryd.func13, Tryd.ntmps13
 go_wp2_with (first | ((with_reducible refine gate_dst (N := 1) rfl ?_); refine bx_ 1 24 #[.int .i64 a0_0, .int .i64 a0_1, .int .u64 a0_2] ?_; intro gb113 hg w10 hbox hb; refine nx4_ (below_step (bU_ HB.out) hb) (hbox) ((hs_ hg (below_size (bU_ HB.out)))) ((hs_ hg (below_size (bU_ HB.out)))) ?_; clear HB; intro HB BK113 GW113 GE113; clear hb hbox hg; have hcz11_0 := bc0_ BK113.out; have hcz11_1 := bc1_ BK113.out; have hcz11_2 := bc2_ BK113.out; have hfz11_0 := blk_frozen BK113.out 0; have hfz11_1 := blk_frozen BK113.out 1; have hfz11_2 := blk_frozen BK113.out 2) | ((with_reducible refine gate_callee (f := 11) rfl ?_); refine gl_ (some 4) Tryd.func11 #[.agg #[.int .i64 a0_0, .int .i64 a0_1, .int .u64 a0_2]] ?_; (with_reducible refine (code_Valid.calls a0_0 a0_1 a0_2 false _ ?side1 A2.out).mono ?_); (case side1 => repeat (first | with_reducible exact HG.out | with_reducible exact (Fld.below HG.out HB.out) | exact (Fld.below HG.out sU_) | (with_reducible refine Fld.alloc ?_ _) | (with_reducible refine Fld.drewN ?_ _) | (with_reducible refine Fld.drew ?_))); rintro e w12 ⟨rfl, hb⟩; refine ⟨_, rfl, ?_⟩; refine nx2_ (blk_below (kU_ BK113.out) hb) (below_step sU_ hb) ?_; clear BK113 HB; intro BK113 HB; clear hb))
 go_ret
 exact ⟨eW_, sU_⟩

def field_Mul.f (a0 : Int) (a1 : Int) (a2 : Int) : Option (Int) := (field_P.f a0).bind fun t117 => (if t117 = 0 then (some 0) else (some (Int.tmod (IntKind.u64.wrap ((Int.tmod a1 t117) * (Int.tmod a2 t117))) t117)))
set_option maxHeartbeats 8000000 in
set_option maxRecDepth 100000 in
theorem field_Mul.calls (a0 : Int) (a1 : Int) (a2 : Int) (r : Int) (w : World) (hG : Fld w) (h : field_Mul.f a0 a1 a2 = some r) :
  Calls Tryd.prog 55 #[.int .i64 a0, .int .u64 a1, .int .u64 a2] w fun e w' => e = .returned (.int .u64 r) ∧ Below w.heap.size w w' := by
 have HG := ak hG
 clear hG
 have HB := ak (Below.refl w.heap.size w)
 have H := h
 clear h
 unfold field_Mul.f at H
 revert H
 refine bd_ fun t117 A4 H => ?_
 by_cases c5 : t117 = 0
 ·rw [if_pos c5] at H
  have c5b0 := beq_iff_eq.mpr c5
  have c5b1 := bne_eq_false_iff_eq.mpr c5
  clear c5
  obtain rfl := Option.some.inj H
  go_enter Tryd.func55, Tryd.ntmps55
  go_wp2_with (first | (go_at_call 51; (with_reducible refine (field_P.calls a0 t117 _ ?side1 A4.out).mono ?_); (case side1 => exact fU_ HG.out HB.out); rintro e w6 ⟨rfl, hb⟩; refine nx1_ (below_step (bU_ HB.out) hb) ?_; clear HB; intro HB; clear hb))
  repeat (go_quiet (first | (go_at_call 51; (with_reducible refine (field_P.calls a0 t117 _ ?side1 A4.out).mono ?_); (case side1 => exact fU_ HG.out HB.out); rintro e w6 ⟨rfl, hb⟩; refine nx1_ (below_step (bU_ HB.out) hb) ?_; clear HB; intro HB; clear hb)); try go_wp2_with (first | (go_at_call 51; (with_reducible refine (field_P.calls a0 t117 _ ?side1 A4.out).mono ?_); (case side1 => exact fU_ HG.out HB.out); rintro e w6 ⟨rfl, hb⟩; refine nx1_ (below_step (bU_ HB.out) hb) ?_; clear HB; intro HB; clear hb)))
  go_ret
  exact ⟨eW_, bU_ HB.out⟩
 rw [if_neg c5] at H
 have c5b0 := beq_eq_false_iff_ne.mpr c5
 have c5b1 := bne_iff_ne.mpr c5
 obtain rfl := Option.some.inj H
 go_enter Tryd.func55, Tryd.ntmps55
 go_wp2_with (first | (go_at_call 51; (with_reducible refine (field_P.calls a0 t117 _ ?side1 A4.out).mono ?_); (case side1 => exact fU_ HG.out HB.out); rintro e w7 ⟨rfl, hb⟩; refine nx1_ (below_step (bU_ HB.out) hb) ?_; clear HB; intro HB; clear hb))
 repeat (go_quiet (first | (go_at_call 51; (with_reducible refine (field_P.calls a0 t117 _ ?side1 A4.out).mono ?_); (case side1 => exact fU_ HG.out HB.out); rintro e w7 ⟨rfl, hb⟩; refine nx1_ (below_step (bU_ HB.out) hb) ?_; clear HB; intro HB; clear hb)); try go_wp2_with (first | (go_at_call 51; (with_reducible refine (field_P.calls a0 t117 _ ?side1 A4.out).mono ?_); (case side1 => exact fU_ HG.out HB.out); rintro e w7 ⟨rfl, hb⟩; refine nx1_ (below_step (bU_ HB.out) hb) ?_; clear HB; intro HB; clear hb)))
 go_ret
 exact ⟨eW_, bU_ HB.out⟩

def field_Pow.l0 : Nat → Int → Int → Int → Int → Option (Int)
 | 0, _, _, _, _ => none
 | k + 1, x0, x1, x2, x7 => if x2 > 0 then (if (Go.bits .and .u64 x2 1) = 1 then ((field_Mul.f x0 x7 x1).bind fun t119 => ((field_Mul.f x0 x1 x1).bind fun t120 => (field_Pow.l0 k x0 t120 (x2 / 2) t119))) else ((field_Mul.f x0 x1 x1).bind fun t121 => (field_Pow.l0 k x0 t121 (x2 / 2) x7))) else (some x7)
def field_Pow.f (k : Nat) (a0 : Int) (a1 : Int) (a2 : Int) : Option (Int) := (field_Valid.f a0).bind fun t118 => (if t118 = true then (field_Pow.l0 k a0 a1 a2 1) else (some 0))
theorem field_Pow.mono_l : ∀ k, (∀ y0 y1 y2 y3, LeO (field_Pow.l0 k y0 y1 y2 y3) (field_Pow.l0 (k + 1) y0 y1 y2 y3))
 | 0 => fun _ _ _ _ r h => by simp [field_Pow.l0] at h
 | k + 1 => by
  have ih0 := field_Pow.mono_l k
  ·intro y0 y1 y2 y3
   unfold field_Pow.l0
   with_reducible repeat' first | apply ih0 | exact LeO.refl _ | exact LeO.none _ | refine LeO.ite ?_ ?_ | refine LeO.bind ?_ (fun _ => ?_)
theorem field_Pow.mono : ∀ a0 a1 a2 k, LeO (field_Pow.f k a0 a1 a2) (field_Pow.f (k + 1) a0 a1 a2) := by
 intro a0 a1 a2 k
 have ih0 := field_Pow.mono_l k
 unfold field_Pow.f
 with_reducible repeat' first | apply ih0 | exact LeO.refl _ | exact LeO.none _ | refine LeO.ite ?_ ?_ | refine LeO.bind ?_ (fun _ => ?_)
set_option maxHeartbeats 8000000 in
set_option maxRecDepth 100000 in
theorem field_Pow.calls (k : Nat) (a0 : Int) (a1 : Int) (a2 : Int) (r : Int) (w : World) (hG : Fld w) (h : field_Pow.f k a0 a1 a2 = some r) :
  Calls Tryd.prog 47 #[.int .i64 a0, .int .u64 a1, .int .u64 a2] w fun e w' => e = .returned (.int .u64 r) ∧ Below w.heap.size w w' := by
 have HG := ak hG
 clear hG
 have HB := ak (Below.refl w.heap.size w)
 have H : ((field_Valid.f a0).bind fun t118 => (if t118 = true then (field_Pow.l0 k a0 a1 a2 1) else (some 0))) = some r := h
 clear h
 revert H
 refine bd_ fun t118 A4 H => ?_
 by_cases c5 : t118 = true
 ·subst c5
  rw [if_pos rfl] at H
  have H' := ak H
  clear H
  go_enter Tryd.func47, Tryd.ntmps47
  go_wp2_with (first | ((with_reducible refine gate_callee (f := 49) rfl ?_); refine gl_ (some 9) Tryd.func49 #[.int .i64 a0] ?_; (with_reducible refine (field_Valid.calls a0 true _ A4.out).mono ?_); rintro e w' ⟨rfl, ⟨nd, rfl⟩⟩; refine ⟨_, rfl, ?_⟩))
  go_loopg [1, 2, 7] k (fun kq v1 v2 v7 w' => ∃ (x1_1 : Int) (x2_1 : Int) (x7_1 : Int), v1 = .int .u64 x1_1 ∧ v2 = .int .u64 x2_1 ∧ v7 = .int .u64 x7_1 ∧ Aside0 (field_Pow.l0 kq a0 x1_1 x2_1 x7_1 = some r) ∧ Aside0 (kq ≤ k) ∧ Aside0 (Below w.heap.size w w'))
  case atStart => exact ⟨(a1), (a2), (1), gb_, gb_, gb_, H', ⟨Nat.le_refl _⟩, ⟨bU_ HB.out⟩⟩
  case round =>
   clear H'
   (try clear p2); (try clear c4); (try clear c5)
   obtain ⟨x1_1, x2_1, x7_1, rfl, rfl, rfl, HA, HK1, HB⟩ := hrel
   cases gk with
   | zero => exact absurd HA.out (by simp [field_Pow.l0])
   | succ k1 =>
    have H := HA.out
    clear HA
    simp only [field_Pow.l0] at H
    by_cases c6 : x2_1 > 0
    ·rw [if_pos c6] at H
     have c6b0 : decide (0 < x2_1) = true := decide_eq_true c6
     clear c6
     by_cases c7 : (Go.bits .and .u64 x2_1 1) = 1
     ·rw [if_pos c7] at H
      have c7b0 := beq_iff_eq.mpr c7
      have c7b1 := bne_eq_false_iff_eq.mpr c7
      clear c7
      revert H
      refine bd_ fun t119 A8 H => ?_
      revert H
      refine bd_ fun t120 A9 H => ?_
      have H' := ak H
      clear H
      go_wp2_with (first | ((with_reducible refine gate_callee (f := 55) rfl ?_); refine gl_ (some 21) Tryd.func55 #[.int .i64 a0, .int .u64 x7_1, .int .u64 x1_1] ?_; (with_reducible refine (field_Mul.calls a0 x7_1 x1_1 t119 _ ?side1 A8.out).mono ?_); (case side1 => exact fU_ HG.out HB.out); rintro e w10 ⟨rfl, hb⟩; refine ⟨_, rfl, ?_⟩; refine nx1_ (below_step (bU_ HB.out) hb) ?_; clear HB; intro HB; clear hb) | ((with_reducible refine gate_callee (f := 55) rfl ?_); refine gl_ (some 25) Tryd.func55 #[.int .i64 a0, .int .u64 x1_1, .int .u64 x1_1] ?_; (with_reducible refine (field_Mul.calls a0 x1_1 x1_1 t120 _ ?side1 A9.out).mono ?_); (case side1 => exact fU_ HG.out HB.out); rintro e w11 ⟨rfl, hb⟩; refine ⟨_, rfl, ?_⟩; refine nx1_ (below_step (bU_ HB.out) hb) ?_; clear HB; intro HB; clear hb))
      go_roundg k1
      case measure => have := HK1.out; omega
      case rel => exact ⟨(t120), (x2_1 / 2), (t119), gb_, gb_, gb_, H', ⟨by have := HK1.out; omega⟩, ⟨bU_ HB.out⟩⟩
     rw [if_neg c7] at H
     have c7b0 := beq_eq_false_iff_ne.mpr c7
     have c7b1 := bne_iff_ne.mpr c7
     revert H
     refine bd_ fun t121 A12 H => ?_
     have H' := ak H
     clear H
     go_wp2_with (first | ((with_reducible refine gate_callee (f := 55) rfl ?_); refine gl_ (some 25) Tryd.func55 #[.int .i64 a0, .int .u64 x1_1, .int .u64 x1_1] ?_; (with_reducible refine (field_Mul.calls a0 x1_1 x1_1 t121 _ ?side1 A12.out).mono ?_); (case side1 => exact fU_ HG.out HB.out); rintro e w13 ⟨rfl, hb⟩; refine ⟨_, rfl, ?_⟩; refine nx1_ (below_step (bU_ HB.out) hb) ?_; clear HB; intro HB; clear hb))
     go_roundg k1
     case measure => have := HK1.out; omega
     case rel => exact ⟨(t121), (x2_1 / 2), (x7_1), gb_, gb_, gb_, H', ⟨by have := HK1.out; omega⟩, ⟨bU_ HB.out⟩⟩
    rw [if_neg c6] at H
    have c6b0 : decide (0 < x2_1) = false := decide_eq_false c6
    clear c6
    obtain rfl := Option.some.inj H
    go_wp2
    go_ret
    exact ⟨eW_, bU_ HB.out⟩
 replace c5 := Bool.eq_false_iff.mpr c5
 subst c5
 rw [if_neg (show ¬ (false = true) by decide)] at H
 obtain rfl := Option.some.inj H
 go_enter Tryd.func47, Tryd.ntmps47
 go_wp2_with (first | ((with_reducible refine gate_callee (f := 49) rfl ?_); refine gl_ (some 9) Tryd.func49 #[.int .i64 a0] ?_; (with_reducible refine (field_Valid.calls a0 false _ A4.out).mono ?_); rintro e w' ⟨rfl, ⟨nd, rfl⟩⟩; refine ⟨_, rfl, ?_⟩))
 go_ret
 exact ⟨eW_, bU_ HB.out⟩

def field_Root.f (k : Nat) (a0 : Int) (a1 : Int) : Option (Int) := if pOf a0 = 0 then some 0 else if a1 < 0 then some 0 else if a1 > tOf a0 then some 0 else field_Pow.f k a0 (gOf a0) (IntKind.u64.wrap (pOf a0 - 1) / 2 ^ min a1.toNat 64)
set_option maxHeartbeats 8000000 in
set_option maxRecDepth 100000 in
theorem field_Root.calls (k : Nat) (a0 a1 : Int) (r : Int) (w : World) (hG : Fld w) (h : field_Root.f k a0 a1 = some r) :
  Calls Tryd.prog 56 #[.int .i64 a0, .int .i64 a1] w fun e w' => e = .returned (.int .u64 r) ∧ Below w.heap.size w w' := by
 have HG := ak hG
 clear hG
 have H := ak h
 clear h
 by_cases c0 : pOf a0 = 0
 ·have c0b : (pOf a0 == 0) = true := by simpa using c0
  have e : r = 0 := by
   have := H.out
   unfold field_Root.f at this
   rw [if_pos c0] at this; exact (Option.some.inj this).symm
  subst e
  go_enter Tryd.func56, Tryd.ntmps56
  go_wp2_with (go_at_call 78; (with_reducible refine (of_any a0 _ HG.out).mono ?_); rintro e w' ⟨va, vn, vc, rfl, hb⟩)
  go_ret
  exact ⟨rfl, bU_ hb⟩
 have c0b : (pOf a0 == 0) = false := by simpa using c0
 by_cases c1 : a1 < 0
 ·have c1b : decide (a1 < 0) = true := by simpa using c1
  have e : r = 0 := by
   have := H.out
   unfold field_Root.f at this
   rw [if_neg c0, if_pos c1] at this; exact (Option.some.inj this).symm
  subst e
  go_enter Tryd.func56, Tryd.ntmps56
  go_wp2_with (go_at_call 78; (with_reducible refine (of_any a0 _ HG.out).mono ?_); rintro e w' ⟨va, vn, vc, rfl, hb⟩)
  go_ret
  exact ⟨rfl, bU_ hb⟩
 by_cases c2 : a1 > tOf a0
 ·have c1b : decide (a1 < 0) = false := by simpa using c1
  have c2b : decide (tOf a0 < a1) = true := by simpa using c2
  have e : r = 0 := by
   have := H.out
   unfold field_Root.f at this
   rw [if_neg c0, if_neg c1, if_pos c2] at this; exact (Option.some.inj this).symm
  subst e
  go_enter Tryd.func56, Tryd.ntmps56
  go_wp2_with (go_at_call 78; (with_reducible refine (of_any a0 _ HG.out).mono ?_); rintro e w' ⟨va, vn, vc, rfl, hb⟩)
  go_ret
  exact ⟨rfl, bU_ hb⟩
 have c1b : decide (a1 < 0) = false := by simpa using c1
 have c2b : decide (tOf a0 < a1) = false := by simpa using c2
 go_enter Tryd.func56, Tryd.ntmps56
 go_wp2_with (go_at_call 78; (with_reducible refine (of_any a0 _ HG.out).mono ?_); rintro e w' ⟨va, vn, vc, rfl, hb⟩)
 have hA : Below w.heap.size w (w'.alloc (Obj.cells #[.int .u64 (pOf a0), .int .u64 (gOf a0), .int .i64 (tOf a0), .int .i64 (xOf a0), .slice va vn vc] 84)) := below_alloc hb _
 have g0 : (w'.alloc (Obj.cells #[.int .u64 (pOf a0), .int .u64 (gOf a0), .int .i64 (tOf a0), .int .i64 (xOf a0), .slice va vn vc] 84)).cell? ⟨w'.heap.size, 0, none⟩ = some (.int .u64 (pOf a0)) := by go_simp
 have g1 : (w'.alloc (Obj.cells #[.int .u64 (pOf a0), .int .u64 (gOf a0), .int .i64 (tOf a0), .int .i64 (xOf a0), .slice va vn vc] 84)).cell? ⟨w'.heap.size, 1, none⟩ = some (.int .u64 (gOf a0)) := by go_simp
 generalize w'.alloc (Obj.cells #[.int .u64 (pOf a0), .int .u64 (gOf a0), .int .i64 (tOf a0), .int .i64 (xOf a0), .slice va vn vc] 84) = wA at *
 generalize w'.heap.size = B at *
 clear hb
 refine start_ (n := 10) (S := fun w' => w'.cell? ⟨B, 0, none⟩ = some (.int .u64 (pOf a0)) ∧ w'.cell? ⟨B, 1, none⟩ = some (.int .u64 (gOf a0))) (ds := []) (bv 10 0) (by kernel_rfl) rfl rfl ⟨g0, g1⟩ (fun hHeld => ?_)
 have HB := ak (below_drew1 hA)
 clear hA g0 g1
 generalize wA.drew = w9 at HB hHeld ⊢
 have HT_ : Aside0 (rtab .any (opsOf Tryd.f56 4) = rtab .any (opsOf Tryd.f56 4)) := ⟨rfl⟩
 refine pq_ 0 21 10 1 HT_.out ?_
 refine pq_ 1 22 10 3 HT_.out ?_
 refine take_ (i := 2) (N := some 23) (v := ?_) (a' := ?_) (bv 10 7) rfl rfl (take_of HT_.out (by kernel_rfl)) (fun _ _ _ h => h) (Or.inl ⟨by rfl, ?_⟩) hHeld ?_ ?_
 rotate_left
 ·rintro w' ⟨s0, s1⟩
  go_simp
  with_reducible rfl
 rotate_left
 ·simp only [Act.put, s1_, s2_, s3_, i64_w, i32_w]
  rfl
 refine pq_ 3 24 10 15 HT_.out ?_
 refine take_ (i := 4) (N := some 25) (v := ?_) (a' := ?_) (bv 10 31) rfl rfl (take_of HT_.out (by kernel_rfl)) (fun _ _ _ h => h) (Or.inl ⟨by rfl, ?_⟩) hHeld ?_ ?_
 rotate_left
 ·rintro w' ⟨s0, s1⟩
  go_simp
  with_reducible rfl
 rotate_left
 ·simp only [Act.put, s1_, s2_, s3_, i64_w, i32_w]
  rfl
 refine pq_ 5 26 10 63 HT_.out ?_
 refine pq_ 6 27 10 127 HT_.out ?_
 refine pq_ 7 28 10 255 HT_.out ?_
 have h8 : field_Pow.f k a0 (gOf a0) (IntKind.u64.wrap (pOf a0 - 1) / 2 ^ min a1.toNat 64) = some r := by
  have := H.out
  unfold field_Root.f at this
  rwa [if_neg c0, if_neg (by omega), if_neg (by omega)] at this
 refine oq_ 8 29 10 511 HT_.out fun K hK => ?_
 refine gs_ Tryd.func47 #[.int .i64 a0, .int .u64 (gOf a0), .int .u64 (IntKind.u64.wrap (pOf a0 - 1) / 2 ^ min a1.toNat 64)] ?_
 with_reducible refine (field_Pow.calls k a0 (gOf a0) (IntKind.u64.wrap (pOf a0 - 1) / 2 ^ min a1.toNat 64) r _ ?side1 h8).mono ?_
 (case side1 => exact fU_ HG.out HB.out)
 rintro e w11 ⟨rfl, hb⟩
 refine ⟨_, rfl, ?_⟩
 refine nx1_ (below_step (bU_ HB.out) hb) ?_
 clear HB
 intro HB
 refine hK.out _ _ ⟨(hb.cell (World.block_lt_of_cell? _ _ hHeld.1)).trans hHeld.1, (hb.cell (World.block_lt_of_cell? _ _ hHeld.2)).trans hHeld.2⟩ (fun hHeld => ?_)
 clear hK K hb
 refine norm_ (a' := ?_) ?_ ?_
 rotate_left
 ·show Act.put _ (some 29) _ = _
  simp only [Act.put, s1_, s2_, s3_, i64_w, i32_w]
  rfl
 refine pq_ 9 4 10 1023 HT_.out ?_
 refine done_ (done_of HT_.out (by kernel_rfl)) ?_
 try go_wp2
 go_ret
 exact ⟨rfl, bU_ HB.out⟩
theorem field_Root.mono : ∀ a0 a1 k, LeO (field_Root.f k a0 a1) (field_Root.f (k + 1) a0 a1) := by
 intro a0 a1 k
 unfold field_Root.f
 exact LeO.ite (LeO.refl _) (LeO.ite (LeO.refl _) (LeO.ite (LeO.refl _) (field_Pow.mono _ _ _ _)))

def code_Point.j0 : Nat → Int → Bool → Int → Int → Int → Option (Int)
 | 0, _, _, _, _, _ => none
 | k + 1, x1, x12, x123000, x123001, x123002 => if x12 = true then (some 0) else ((field_Root.f k x123000 x123001).bind fun t124 => ((field_Pow.f k x123000 t124 (IntKind.u64.wrap (x1))).bind fun t125 => ((field_Mul.f x123000 x123002 t125).bind fun t126 => (some t126))))
def code_Point.f (k : Nat) (a0_0 : Int) (a0_1 : Int) (a0_2 : Int) (a1 : Int) : Option (Int) := if a1 < 0 then (code_Point.j0 k a1 true a0_0 a0_1 a0_2) else ((code_Size.f a0_0 a0_1 a0_2).bind fun t123 => (code_Point.j0 k a1 (decide (a1 ≥ t123)) a0_0 a0_1 a0_2))
theorem code_Point.mono_l : ∀ k, (∀ y0 y1 y2 y3 y4, LeO (code_Point.j0 k y0 y1 y2 y3 y4) (code_Point.j0 (k + 1) y0 y1 y2 y3 y4))
 | 0 => fun _ _ _ _ _ r h => by simp [code_Point.j0] at h
 | k + 1 => by
  have ih0 := code_Point.mono_l k
  ·intro y0 y1 y2 y3 y4
   unfold code_Point.j0
   with_reducible repeat' first | apply ih0 | apply field_Pow.mono | apply field_Root.mono | exact LeO.refl _ | exact LeO.none _ | refine LeO.ite ?_ ?_ | refine LeO.bind ?_ (fun _ => ?_)
theorem code_Point.mono : ∀ a0 a1 a2 a3 k, LeO (code_Point.f k a0 a1 a2 a3) (code_Point.f (k + 1) a0 a1 a2 a3) := by
 intro a0 a1 a2 a3 k
 have ih0 := code_Point.mono_l k
 unfold code_Point.f
 with_reducible repeat' first | apply ih0 | apply field_Pow.mono | apply field_Root.mono | exact LeO.refl _ | exact LeO.none _ | refine LeO.ite ?_ ?_ | refine LeO.bind ?_ (fun _ => ?_)
def code_Point.T3 : Bool × List (List Nat × List Nat) := (true, [([], []), ([0], [0]), ([], []), ([2], [2]), ([], []), ([4], [4]), ([], []), ([6], [6]), ([], []), ([8], [8]), ([7, 9], [7, 9]), ([], []), ([11], [11]), ([5, 10, 12, 10], [5, 10, 12]), ([1, 3, 13, 13], [1, 3, 13]), ([14, 14, 0, 1, 2, 3, 4, 5, 6, 7, 8, 9, 10, 11, 12, 13, 14], [14])])
def code_Point.B3 : List Nat := [0, 1, 0, 4, 0, 16, 0, 64, 0, 256, 960, 0, 2048, 8176, 16383, 32767]
theorem code_Point.tab3 : rtab .any (opsOf Tryd.f15 3) = code_Point.T3 := by kernel_rfl
theorem code_Point.bits3 : waitsOk code_Point.T3.2 code_Point.B3 = true := by kernel_rfl
set_option maxHeartbeats 8000000 in
set_option maxRecDepth 100000 in
theorem code_Point.calls (k : Nat) (a0_0 : Int) (a0_1 : Int) (a0_2 : Int) (a1 : Int) (r : Int) (w : World) (hG : Fld w) (h : code_Point.f k a0_0 a0_1 a0_2 a1 = some r) :
  Calls Tryd.prog 15 #[.agg #[.int .i64 a0_0, .int .i64 a0_1, .int .u64 a0_2], .int .i64 a1] w fun e w' => e = .returned (.int .u64 r) ∧ Below w.heap.size w w' := by
 have hu24 := Tryd.underlying24
 have HG := ak hG
 clear hG
 have HB := ak (Below.refl w.heap.size w)
 have H := h
 clear h
 unfold code_Point.f at H
 have HC3 := ak H
 clear H
 go_enter Tryd.func15, Tryd.ntmps15
 go_upto_region 1 with (first | ((with_reducible refine gate_dst (N := 2) rfl ?_); refine bx_ 2 24 #[.int .i64 a0_0, .int .i64 a0_1, .int .u64 a0_2] ?_; intro gb122 hg w4 hbox hb; refine nx4_ (below_step (bU_ HB.out) hb) (hbox) ((hs_ hg (below_size (bU_ HB.out)))) ((hs_ hg (below_size (bU_ HB.out)))) ?_; clear HB; intro HB BK122 GW122 GE122; clear hb hbox hg))
 (try simp only [Act.put, s1_, s2_, s3_])
 go_cut [12] (fun v12 wc => ∃ (kq : Nat) (x12_2 : Bool), v12 = .bool x12_2 ∧ Aside0 (code_Point.j0 kq a1 x12_2 a0_0 a0_1 a0_2 = some r) ∧ Aside0 (kq ≤ k) ∧ Aside0 (wc.heap[gb122]? = some (.cells #[.int .i64 a0_0, .int .i64 a0_1, .int .u64 a0_2] 24 (0, 0))) ∧ Aside0 (Below w.heap.size w wc))
 case first =>
  have H := HC3.out
  clear HC3
  by_cases c5 : a1 < 0
  ·rw [if_pos c5] at H
   have c5b0 := decide_eq_true c5
   clear c5
   (first | rw [c5b0] | (simp only [i64_w, i32_w]; rw [c5b0]) | rw [c5b1] | skip)
   have H' := ak H
   clear H
   go_wp2
   go_meet
   case rel => exact ⟨_, (true), gb_, H', ⟨by first | omega | exact Nat.le_refl _⟩, ⟨by (with_reducible repeat (first | refine blk_drewN ?_ _ | refine blk_drew ?_ | refine blk_alloc ?_ _)); exact BK122.out⟩, ⟨sU_⟩⟩
  rw [if_neg c5] at H
  have c5b0 := decide_eq_false c5
  clear c5
  (first | rw [c5b0] | (simp only [i64_w, i32_w]; rw [c5b0]) | rw [c5b1] | skip)
  revert H
  refine bd_ fun t123 A6 H => ?_
  have H' := ak H
  clear H
  have hcz7_0 := bc0_ BK122.out
  have hcz7_1 := bc1_ BK122.out
  have hcz7_2 := bc2_ BK122.out
  have hfz7_0 := blk_frozen BK122.out 0
  have hfz7_1 := blk_frozen BK122.out 1
  have hfz7_2 := blk_frozen BK122.out 2
  go_wp2_with (first | (go_at_call 13; (with_reducible refine (code_Size.calls a0_0 a0_1 a0_2 t123 _ ?side1 A6.out).mono ?_); (case side1 => repeat (first | with_reducible exact HG.out | with_reducible exact (Fld.below HG.out HB.out) | exact (Fld.below HG.out sU_) | (with_reducible refine Fld.alloc ?_ _) | (with_reducible refine Fld.drewN ?_ _) | (with_reducible refine Fld.drew ?_))); rintro e w8 ⟨rfl, hb⟩; refine nx2_ (blk_below (kU_ BK122.out) hb) (below_step sU_ hb) ?_; clear BK122 HB; intro BK122 HB; clear hb))
  go_meet
  case rel => exact ⟨_, (decide (a1 ≥ t123)), gb_, H', ⟨by first | omega | exact Nat.le_refl _⟩, ⟨by (with_reducible repeat (first | refine blk_drewN ?_ _ | refine blk_drew ?_ | refine blk_alloc ?_ _)); exact BK122.out⟩, ⟨sU_⟩⟩
 case rest =>
  clear HC3
  (try clear c1); (try clear p2); (try clear c5); (try clear c5b0); (try clear c5b1); (try clear hcz7_0); (try clear hcz7_1); (try clear hcz7_2); (try clear hfz7_0); (try clear hfz7_1); (try clear hfz7_2)
  obtain ⟨kq, x12_2, rfl, HA, HJ2, BK122, HB⟩ := hcut
  cases kq with
  | zero => exact absurd HA.out (by simp [code_Point.j0])
  | succ kj2 =>
   have H := HA.out
   clear HA
   simp only [code_Point.j0] at H
   by_cases c9 : x12_2 = true
   ·subst c9
    rw [if_pos rfl] at H
    obtain rfl := Option.some.inj H
    go_wp2
    go_ret
    exact ⟨eW_, sU_⟩
   replace c9 := Bool.eq_false_iff.mpr c9
   subst c9
   rw [if_neg (show ¬ (false = true) by decide)] at H
   revert H
   refine bd_ fun t124 A10 H => ?_
   revert H
   refine bd_ fun t125 A11 H => ?_
   revert H
   refine bd_ fun t126 A12 H => ?_
   obtain rfl := Option.some.inj H
   try go_wp2
   refine nx2_ (blk_drew BK122.out) (below_drew1 HB.out) ?_
   clear BK122 HB
   intro BK122 HB
   refine start_ (n := 16) (S := fun w' => w'.cell? ⟨gb122, 0, none⟩ = some (.int .i64 a0_0) ∧ w'.cell? ⟨gb122, 1, none⟩ = some (.int .i64 a0_1) ∧ w'.cell? ⟨gb122, 2, none⟩ = some (.int .u64 a0_2)) (ds := []) (bv 16 0) (by kernel_rfl) rfl rfl ⟨bc0_ BK122.out, bc1_ BK122.out, bc2_ BK122.out⟩ (fun hHeld => ?_); refine with_tabW code_Point.tab3 code_Point.bits3 (fun HT_ HW_ => ?_)
   generalize wc.drew = w13 at BK122 HB hHeld ⊢
   refine pq_ 0 13 16 1 HT_.out ?_
   refine pq_ 2 15 16 5 HT_.out ?_
   refine pq_ 4 17 16 21 HT_.out ?_
   refine pq_ 6 19 16 85 HT_.out ?_
   refine pq_ 8 21 16 341 HT_.out ?_
   refine pq_ 11 24 16 2389 HT_.out ?_
   refine pq_ 12 25 16 6485 HT_.out ?_
   refine tq_ 1 14 16 6487 HT_.out HW_.out hHeld ?_
   refine tq_ 3 16 16 6495 HT_.out HW_.out hHeld ?_
   refine tq_ 5 18 16 6527 HT_.out HW_.out hHeld ?_
   refine tq_ 7 20 16 6655 HT_.out HW_.out hHeld ?_
   refine tq_ 9 22 16 7167 HT_.out HW_.out hHeld ?_
   refine oq_ 10 23 16 8191 HT_.out fun K hK => ?_
   refine gs_ Tryd.func56 #[.int .i64 a0_0, .int .i64 a0_1] ?_
   with_reducible refine (field_Root.calls kj2 a0_0 a0_1 t124 _ ?side1 A10.out).mono ?_
   (case side1 => repeat (first | with_reducible exact HG.out | with_reducible exact (Fld.below HG.out HB.out) | exact (Fld.below HG.out sU_) | (with_reducible refine Fld.alloc ?_ _) | (with_reducible refine Fld.drewN ?_ _) | (with_reducible refine Fld.drew ?_)))
   rintro e w14 ⟨rfl, hb⟩
   refine ⟨_, rfl, ?_⟩
   refine nx2_ (blk_below (kU_ BK122.out) hb) (below_step sU_ hb) ?_
   clear BK122 HB
   intro BK122 HB
   (try clear hb)
   (try clear hb2)
   (try clear hk)
   (try clear hi)
   refine hK.out _ _ ⟨bc0_ BK122.out, bc1_ BK122.out, bc2_ BK122.out⟩ (fun hHeld => ?_)
   clear hK K
   refine norm_ (a' := ?_) ?_ ?_
   rotate_left
   ·show Act.put _ (some 23) _ = _
    simp only [Act.put, s1_, s2_, s3_, i64_w, i32_w]
    rfl
   refine oq_ 13 26 16 16383 HT_.out fun K hK => ?_
   refine gs_ Tryd.func47 #[.int .i64 a0_0, .int .u64 t124, .int .u64 (IntKind.u64.wrap (a1))] ?_
   with_reducible refine (field_Pow.calls kj2 a0_0 t124 (IntKind.u64.wrap (a1)) t125 _ ?side1 A11.out).mono ?_
   (case side1 => repeat (first | with_reducible exact HG.out | with_reducible exact (Fld.below HG.out HB.out) | exact (Fld.below HG.out sU_) | (with_reducible refine Fld.alloc ?_ _) | (with_reducible refine Fld.drewN ?_ _) | (with_reducible refine Fld.drew ?_)))
   rintro e w15 ⟨rfl, hb⟩
   refine ⟨_, rfl, ?_⟩
   refine nx2_ (blk_below (kU_ BK122.out) hb) (below_step sU_ hb) ?_
   clear BK122 HB
   intro BK122 HB
   (try clear hb)
   (try clear hb2)
   (try clear hk)
   (try clear hi)
   refine hK.out _ _ ⟨bc0_ BK122.out, bc1_ BK122.out, bc2_ BK122.out⟩ (fun hHeld => ?_)
   clear hK K
   refine norm_ (a' := ?_) ?_ ?_
   rotate_left
   ·show Act.put _ (some 26) _ = _
    simp only [Act.put, s1_, s2_, s3_, i64_w, i32_w]
    rfl
   refine oq_ 14 27 16 32767 HT_.out fun K hK => ?_
   refine gs_ Tryd.func55 #[.int .i64 a0_0, .int .u64 a0_2, .int .u64 t125] ?_
   with_reducible refine (field_Mul.calls a0_0 a0_2 t125 t126 _ ?side1 A12.out).mono ?_
   (case side1 => repeat (first | with_reducible exact HG.out | with_reducible exact (Fld.below HG.out HB.out) | exact (Fld.below HG.out sU_) | (with_reducible refine Fld.alloc ?_ _) | (with_reducible refine Fld.drewN ?_ _) | (with_reducible refine Fld.drew ?_)))
   rintro e w16 ⟨rfl, hb⟩
   refine ⟨_, rfl, ?_⟩
   refine nx2_ (blk_below (kU_ BK122.out) hb) (below_step sU_ hb) ?_
   clear BK122 HB
   intro BK122 HB
   (try clear hb)
   (try clear hb2)
   (try clear hk)
   (try clear hi)
   refine hK.out _ _ ⟨bc0_ BK122.out, bc1_ BK122.out, bc2_ BK122.out⟩ (fun hHeld => ?_)
   clear hK K
   refine norm_ (a' := ?_) ?_ ?_
   rotate_left
   ·show Act.put _ (some 27) _ = _
    simp only [Act.put, s1_, s2_, s3_, i64_w, i32_w]
    rfl
   refine pq_ 15 4 16 65535 HT_.out ?_
   refine done_ (done_of HT_.out (by kernel_rfl)) ?_
   try go_wp2
   go_ret
   exact ⟨eW_, sU_⟩

def field_Generator.f (a0 : Int) : Option (Int) := some (gOf a0)
theorem field_Generator.calls (a0 : Int) (r : Int) (w : World) (hG : Fld w) (h : field_Generator.f a0 = some r) :
  Calls Tryd.prog 58 #[.int .i64 a0] w fun e w' => e = .returned (.int .u64 r) ∧ Below w.heap.size w w' := by
 obtain rfl := Option.some.inj h
 clear h
 have hfl := fld1
 go_enter Tryd.func58, Tryd.ntmps58
 go_wp2_with (go_at_call 78; (with_reducible refine (of_any a0 _ hG).mono ?_); rintro e w' ⟨va, vn, vc, rfl, hb⟩)
 go_ret
 exact ⟨rfl, hb⟩

def code_Wide.f (a0 : Int) (a1 : Int) (a2 : Int) : Option (Int × Int × Int × Int) := (code_greatest.f a0).bind fun t145 => ((field_Valid.f a0).bind fun t146 => (if t146 = true then (if a1 < 0 then (some (0, 0, 0, 2)) else (if a2 < 0 then (some (0, 0, 0, 2)) else (if a1 > t145 then (some (0, 0, 0, 2)) else (if a2 > (wrap64 (t145 - a1)) then (some (0, 0, 0, 2)) else ((field_Generator.f a0).bind fun t147 => (some (a0, wrap64 (a1 + a2), t147, 0))))))) else (some (0, 0, 0, 1))))
set_option maxHeartbeats 8000000 in
set_option maxRecDepth 100000 in
theorem code_Wide.calls (a0 : Int) (a1 : Int) (a2 : Int) (r1 : Int) (r2 : Int) (r3 : Int) (r4 : Int) (w : World) (hG : Fld w) (h : code_Wide.f a0 a1 a2 = some (r1, r2, r3, r4)) :
  Calls Tryd.prog 17 #[.int .i64 a0, .int .i64 a1, .int .i64 a2] w fun e w' => e = .returned (.tuple #[.agg #[.int .i64 r1, .int .i64 r2, .int .u64 r3], .int .i64 r4]) ∧ Below w.heap.size w w' := by
 have hu24 := Tryd.underlying24
 have HG := ak hG
 clear hG
 have HB := ak (Below.refl w.heap.size w)
 have H := h
 clear h
 unfold code_Wide.f at H
 revert H
 refine bd_ fun t145 A4 H => ?_
 revert H
 refine bd_ fun t146 A5 H => ?_
 by_cases c6 : t146 = true
 ·subst c6
  rw [if_pos rfl] at H
  by_cases c7 : a1 < 0
  ·rw [if_pos c7] at H
   have c7b0 := decide_eq_true c7
   clear c7
   simp only [Option.some.injEq, Prod.mk.injEq] at H
   obtain ⟨rfl, rfl, rfl, rfl⟩ := H
   go_enter Tryd.func17, Tryd.ntmps17
   go_wp2_with (first | ((with_reducible refine gate_dst (N := 6) rfl ?_); refine bx_ 6 24 #[.int .i64 0, .int .i64 0, .int .u64 0] ?_; intro gb144 hg w8 hbox hb; refine nx4_ (below_step (bU_ HB.out) hb) (hbox) ((hs_ hg (below_size (bU_ HB.out)))) ((hs_ hg (below_size (bU_ HB.out)))) ?_; clear HB; intro HB BK144 GW144 GE144; clear hb hbox hg) | ((with_reducible refine gate_callee (f := 50) rfl ?_); refine gl_ (some 10) Tryd.func50 #[.int .i64 a0] ?_; (with_reducible refine (code_greatest.calls a0 t145 _ ?side1 A4.out).mono ?_); (case side1 => repeat (first | with_reducible exact HG.out | with_reducible exact (Fld.below HG.out HB.out) | exact (Fld.below HG.out sU_) | (with_reducible refine Fld.alloc ?_ _) | (with_reducible refine Fld.drewN ?_ _) | (with_reducible refine Fld.drew ?_))); rintro e w9 ⟨rfl, hb⟩; refine ⟨_, rfl, ?_⟩; refine nx2_ (blk_below (kU_ BK144.out) hb) (below_step sU_ hb) ?_; clear BK144 HB; intro BK144 HB; clear hb) | ((with_reducible refine gate_callee (f := 49) rfl ?_); refine gl_ (some 13) Tryd.func49 #[.int .i64 a0] ?_; (with_reducible refine (field_Valid.calls a0 true _ A5.out).mono ?_); rintro e w' ⟨rfl, ⟨nd, rfl⟩⟩; refine ⟨_, rfl, ?_⟩; (try (rw [drewN_self w9]; generalize hq_ : World.drewN w9 _ = w9; have n0_ : Aside0 (w9.heap[gb144]? = some (.cells #[.int .i64 0, .int .i64 0, .int .u64 0] 24 (0, 0))) := ⟨by rw [← hq_]; exact (kU_ BK144.out)⟩; have n1_ : Aside0 (Below w.heap.size w w9) := ⟨by rw [← hq_]; exact sU_⟩; clear BK144 HB hq_; have BK144 := n0_; have HB := n1_; clear n0_ n1_)); have hcz10_0 := bc0_ BK144.out; have hcz10_1 := bc1_ BK144.out; have hcz10_2 := bc2_ BK144.out; have hfz10_0 := blk_frozen BK144.out 0; have hfz10_1 := blk_frozen BK144.out 1; have hfz10_2 := blk_frozen BK144.out 2))
   refine bodyPost_ret (results_ct rfl _ _ gb144 24 #[.int .i64 0, .int .i64 0, .int .u64 0] (0, 0) _ rfl kp_ Tryd.underlying24 rfl (by kernel_rfl)) rfl ?_
   exact ⟨eW_, sU_⟩
  rw [if_neg c7] at H
  have c7b0 := decide_eq_false c7
  clear c7
  by_cases c11 : a2 < 0
  ·rw [if_pos c11] at H
   have c11b0 := decide_eq_true c11
   clear c11
   simp only [Option.some.injEq, Prod.mk.injEq] at H
   obtain ⟨rfl, rfl, rfl, rfl⟩ := H
   go_enter Tryd.func17, Tryd.ntmps17
   go_wp2_with (first | ((with_reducible refine gate_dst (N := 6) rfl ?_); refine bx_ 6 24 #[.int .i64 0, .int .i64 0, .int .u64 0] ?_; intro gb144 hg w12 hbox hb; refine nx4_ (below_step (bU_ HB.out) hb) (hbox) ((hs_ hg (below_size (bU_ HB.out)))) ((hs_ hg (below_size (bU_ HB.out)))) ?_; clear HB; intro HB BK144 GW144 GE144; clear hb hbox hg) | ((with_reducible refine gate_callee (f := 50) rfl ?_); refine gl_ (some 10) Tryd.func50 #[.int .i64 a0] ?_; (with_reducible refine (code_greatest.calls a0 t145 _ ?side1 A4.out).mono ?_); (case side1 => repeat (first | with_reducible exact HG.out | with_reducible exact (Fld.below HG.out HB.out) | exact (Fld.below HG.out sU_) | (with_reducible refine Fld.alloc ?_ _) | (with_reducible refine Fld.drewN ?_ _) | (with_reducible refine Fld.drew ?_))); rintro e w13 ⟨rfl, hb⟩; refine ⟨_, rfl, ?_⟩; refine nx2_ (blk_below (kU_ BK144.out) hb) (below_step sU_ hb) ?_; clear BK144 HB; intro BK144 HB; clear hb) | ((with_reducible refine gate_callee (f := 49) rfl ?_); refine gl_ (some 13) Tryd.func49 #[.int .i64 a0] ?_; (with_reducible refine (field_Valid.calls a0 true _ A5.out).mono ?_); rintro e w' ⟨rfl, ⟨nd, rfl⟩⟩; refine ⟨_, rfl, ?_⟩; (try (rw [drewN_self w13]; generalize hq_ : World.drewN w13 _ = w13; have n0_ : Aside0 (w13.heap[gb144]? = some (.cells #[.int .i64 0, .int .i64 0, .int .u64 0] 24 (0, 0))) := ⟨by rw [← hq_]; exact (kU_ BK144.out)⟩; have n1_ : Aside0 (Below w.heap.size w w13) := ⟨by rw [← hq_]; exact sU_⟩; clear BK144 HB hq_; have BK144 := n0_; have HB := n1_; clear n0_ n1_)); have hcz14_0 := bc0_ BK144.out; have hcz14_1 := bc1_ BK144.out; have hcz14_2 := bc2_ BK144.out; have hfz14_0 := blk_frozen BK144.out 0; have hfz14_1 := blk_frozen BK144.out 1; have hfz14_2 := blk_frozen BK144.out 2))
   refine bodyPost_ret (results_ct rfl _ _ gb144 24 #[.int .i64 0, .int .i64 0, .int .u64 0] (0, 0) _ rfl kp_ Tryd.underlying24 rfl (by kernel_rfl)) rfl ?_
   exact ⟨eW_, sU_⟩
  rw [if_neg c11] at H
  have c11b0 := decide_eq_false c11
  clear c11
  by_cases c15 : a1 > t145
  ·rw [if_pos c15] at H
   have c15b0 : decide (t145 < a1) = true := decide_eq_true c15
   clear c15
   simp only [Option.some.injEq, Prod.mk.injEq] at H
   obtain ⟨rfl, rfl, rfl, rfl⟩ := H
   go_enter Tryd.func17, Tryd.ntmps17
   go_wp2_with (first | ((with_reducible refine gate_dst (N := 6) rfl ?_); refine bx_ 6 24 #[.int .i64 0, .int .i64 0, .int .u64 0] ?_; intro gb144 hg w16 hbox hb; refine nx4_ (below_step (bU_ HB.out) hb) (hbox) ((hs_ hg (below_size (bU_ HB.out)))) ((hs_ hg (below_size (bU_ HB.out)))) ?_; clear HB; intro HB BK144 GW144 GE144; clear hb hbox hg) | ((with_reducible refine gate_callee (f := 50) rfl ?_); refine gl_ (some 10) Tryd.func50 #[.int .i64 a0] ?_; (with_reducible refine (code_greatest.calls a0 t145 _ ?side1 A4.out).mono ?_); (case side1 => repeat (first | with_reducible exact HG.out | with_reducible exact (Fld.below HG.out HB.out) | exact (Fld.below HG.out sU_) | (with_reducible refine Fld.alloc ?_ _) | (with_reducible refine Fld.drewN ?_ _) | (with_reducible refine Fld.drew ?_))); rintro e w17 ⟨rfl, hb⟩; refine ⟨_, rfl, ?_⟩; refine nx2_ (blk_below (kU_ BK144.out) hb) (below_step sU_ hb) ?_; clear BK144 HB; intro BK144 HB; clear hb) | ((with_reducible refine gate_callee (f := 49) rfl ?_); refine gl_ (some 13) Tryd.func49 #[.int .i64 a0] ?_; (with_reducible refine (field_Valid.calls a0 true _ A5.out).mono ?_); rintro e w' ⟨rfl, ⟨nd, rfl⟩⟩; refine ⟨_, rfl, ?_⟩; (try (rw [drewN_self w17]; generalize hq_ : World.drewN w17 _ = w17; have n0_ : Aside0 (w17.heap[gb144]? = some (.cells #[.int .i64 0, .int .i64 0, .int .u64 0] 24 (0, 0))) := ⟨by rw [← hq_]; exact (kU_ BK144.out)⟩; have n1_ : Aside0 (Below w.heap.size w w17) := ⟨by rw [← hq_]; exact sU_⟩; clear BK144 HB hq_; have BK144 := n0_; have HB := n1_; clear n0_ n1_)); have hcz18_0 := bc0_ BK144.out; have hcz18_1 := bc1_ BK144.out; have hcz18_2 := bc2_ BK144.out; have hfz18_0 := blk_frozen BK144.out 0; have hfz18_1 := blk_frozen BK144.out 1; have hfz18_2 := blk_frozen BK144.out 2))
   refine bodyPost_ret (results_ct rfl _ _ gb144 24 #[.int .i64 0, .int .i64 0, .int .u64 0] (0, 0) _ rfl kp_ Tryd.underlying24 rfl (by kernel_rfl)) rfl ?_
   exact ⟨eW_, sU_⟩
  rw [if_neg c15] at H
  have c15b0 : decide (t145 < a1) = false := decide_eq_false c15
  clear c15
  by_cases c19 : a2 > (wrap64 (t145 - a1))
  ·rw [if_pos c19] at H
   have c19b0 : decide ((wrap64 (t145 - a1)) < a2) = true := decide_eq_true c19
   clear c19
   simp only [Option.some.injEq, Prod.mk.injEq] at H
   obtain ⟨rfl, rfl, rfl, rfl⟩ := H
   go_enter Tryd.func17, Tryd.ntmps17
   go_wp2_with (first | ((with_reducible refine gate_dst (N := 6) rfl ?_); refine bx_ 6 24 #[.int .i64 0, .int .i64 0, .int .u64 0] ?_; intro gb144 hg w20 hbox hb; refine nx4_ (below_step (bU_ HB.out) hb) (hbox) ((hs_ hg (below_size (bU_ HB.out)))) ((hs_ hg (below_size (bU_ HB.out)))) ?_; clear HB; intro HB BK144 GW144 GE144; clear hb hbox hg) | ((with_reducible refine gate_callee (f := 50) rfl ?_); refine gl_ (some 10) Tryd.func50 #[.int .i64 a0] ?_; (with_reducible refine (code_greatest.calls a0 t145 _ ?side1 A4.out).mono ?_); (case side1 => repeat (first | with_reducible exact HG.out | with_reducible exact (Fld.below HG.out HB.out) | exact (Fld.below HG.out sU_) | (with_reducible refine Fld.alloc ?_ _) | (with_reducible refine Fld.drewN ?_ _) | (with_reducible refine Fld.drew ?_))); rintro e w21 ⟨rfl, hb⟩; refine ⟨_, rfl, ?_⟩; refine nx2_ (blk_below (kU_ BK144.out) hb) (below_step sU_ hb) ?_; clear BK144 HB; intro BK144 HB; clear hb) | ((with_reducible refine gate_callee (f := 49) rfl ?_); refine gl_ (some 13) Tryd.func49 #[.int .i64 a0] ?_; (with_reducible refine (field_Valid.calls a0 true _ A5.out).mono ?_); rintro e w' ⟨rfl, ⟨nd, rfl⟩⟩; refine ⟨_, rfl, ?_⟩; (try (rw [drewN_self w21]; generalize hq_ : World.drewN w21 _ = w21; have n0_ : Aside0 (w21.heap[gb144]? = some (.cells #[.int .i64 0, .int .i64 0, .int .u64 0] 24 (0, 0))) := ⟨by rw [← hq_]; exact (kU_ BK144.out)⟩; have n1_ : Aside0 (Below w.heap.size w w21) := ⟨by rw [← hq_]; exact sU_⟩; clear BK144 HB hq_; have BK144 := n0_; have HB := n1_; clear n0_ n1_)); have hcz22_0 := bc0_ BK144.out; have hcz22_1 := bc1_ BK144.out; have hcz22_2 := bc2_ BK144.out; have hfz22_0 := blk_frozen BK144.out 0; have hfz22_1 := blk_frozen BK144.out 1; have hfz22_2 := blk_frozen BK144.out 2))
   refine bodyPost_ret (results_ct rfl _ _ gb144 24 #[.int .i64 0, .int .i64 0, .int .u64 0] (0, 0) _ rfl kp_ Tryd.underlying24 rfl (by kernel_rfl)) rfl ?_
   exact ⟨eW_, sU_⟩
  rw [if_neg c19] at H
  have c19b0 : decide ((wrap64 (t145 - a1)) < a2) = false := decide_eq_false c19
  clear c19
  revert H
  refine bd_ fun t147 A23 H => ?_
  simp only [Option.some.injEq, Prod.mk.injEq] at H
  obtain ⟨rfl, rfl, rfl, rfl⟩ := H
  go_enter Tryd.func17, Tryd.ntmps17
  go_wp2_with (first | ((with_reducible refine gate_dst (N := 6) rfl ?_); refine bx_ 6 24 #[.int .i64 0, .int .i64 0, .int .u64 0] ?_; intro gb144 hg w24 hbox hb; refine nx4_ (below_step (bU_ HB.out) hb) (hbox) ((hs_ hg (below_size (bU_ HB.out)))) ((hs_ hg (below_size (bU_ HB.out)))) ?_; clear HB; intro HB BK144 GW144 GE144; clear hb hbox hg) | ((with_reducible refine gate_callee (f := 50) rfl ?_); refine gl_ (some 10) Tryd.func50 #[.int .i64 a0] ?_; (with_reducible refine (code_greatest.calls a0 t145 _ ?side1 A4.out).mono ?_); (case side1 => repeat (first | with_reducible exact HG.out | with_reducible exact (Fld.below HG.out HB.out) | exact (Fld.below HG.out sU_) | (with_reducible refine Fld.alloc ?_ _) | (with_reducible refine Fld.drewN ?_ _) | (with_reducible refine Fld.drew ?_))); rintro e w25 ⟨rfl, hb⟩; refine ⟨_, rfl, ?_⟩; refine nx2_ (blk_below (kU_ BK144.out) hb) (below_step sU_ hb) ?_; clear BK144 HB; intro BK144 HB; clear hb) | ((with_reducible refine gate_callee (f := 49) rfl ?_); refine gl_ (some 13) Tryd.func49 #[.int .i64 a0] ?_; (with_reducible refine (field_Valid.calls a0 true _ A5.out).mono ?_); rintro e w' ⟨rfl, ⟨nd, rfl⟩⟩; refine ⟨_, rfl, ?_⟩; (try (rw [drewN_self w25]; generalize hq_ : World.drewN w25 _ = w25; have n0_ : Aside0 (w25.heap[gb144]? = some (.cells #[.int .i64 0, .int .i64 0, .int .u64 0] 24 (0, 0))) := ⟨by rw [← hq_]; exact (kU_ BK144.out)⟩; have n1_ : Aside0 (Below w.heap.size w w25) := ⟨by rw [← hq_]; exact sU_⟩; clear BK144 HB hq_; have BK144 := n0_; have HB := n1_; clear n0_ n1_))) | ((with_reducible refine gate_callee (f := 58) rfl ?_); refine gl_ (some 41) Tryd.func58 #[.int .i64 a0] ?_; (with_reducible refine (field_Generator.calls a0 t147 _ ?side1 A23.out).mono ?_); (case side1 => repeat (first | with_reducible exact HG.out | with_reducible exact (Fld.below HG.out HB.out) | exact (Fld.below HG.out sU_) | (with_reducible refine Fld.alloc ?_ _) | (with_reducible refine Fld.drewN ?_ _) | (with_reducible refine Fld.drew ?_))); rintro e w26 ⟨rfl, hb⟩; refine ⟨_, rfl, ?_⟩; refine nx2_ (blk_below (kU_ BK144.out) hb) (below_step sU_ hb) ?_; clear BK144 HB; intro BK144 HB; clear hb; have hcz27_0 := bc0_ BK144.out; have hcz27_1 := bc1_ BK144.out; have hcz27_2 := bc2_ BK144.out; have hfz27_0 := blk_frozen BK144.out 0; have hfz27_1 := blk_frozen BK144.out 1; have hfz27_2 := blk_frozen BK144.out 2))
  refine bodyPost_ret (results_ct rfl _ _ gb144 24 #[.int .i64 a0, .int .i64 (wrap64 (a1 + a2)), .int .u64 t147] (0, 0) _ rfl (by (with_reducible repeat (first | refine blk_drewN ?_ _ | refine blk_drew ?_ | refine blk_alloc ?_ _)); refine blk_put (cs := #[.int .i64 a0, .int .i64 (wrap64 (a1 + a2)), .int .u64 0]) ?_ 2 _ rfl; (with_reducible repeat (first | refine blk_drewN ?_ _ | refine blk_drew ?_ | refine blk_alloc ?_ _)); refine blk_put (cs := #[.int .i64 a0, .int .i64 0, .int .u64 0]) ?_ 1 _ rfl; (with_reducible repeat (first | refine blk_drewN ?_ _ | refine blk_drew ?_ | refine blk_alloc ?_ _)); refine blk_put (cs := #[.int .i64 0, .int .i64 0, .int .u64 0]) ?_ 0 _ rfl; (with_reducible repeat (first | refine blk_drewN ?_ _ | refine blk_drew ?_ | refine blk_alloc ?_ _)); exact BK144.out) Tryd.underlying24 rfl (by kernel_rfl)) rfl ?_
  exact ⟨eW_, sU_⟩
 replace c6 := Bool.eq_false_iff.mpr c6
 subst c6
 rw [if_neg (show ¬ (false = true) by decide)] at H
 simp only [Option.some.injEq, Prod.mk.injEq] at H
 obtain ⟨rfl, rfl, rfl, rfl⟩ := H
 go_enter Tryd.func17, Tryd.ntmps17
 go_wp2_with (first | ((with_reducible refine gate_dst (N := 6) rfl ?_); refine bx_ 6 24 #[.int .i64 0, .int .i64 0, .int .u64 0] ?_; intro gb144 hg w28 hbox hb; refine nx4_ (below_step (bU_ HB.out) hb) (hbox) ((hs_ hg (below_size (bU_ HB.out)))) ((hs_ hg (below_size (bU_ HB.out)))) ?_; clear HB; intro HB BK144 GW144 GE144; clear hb hbox hg) | ((with_reducible refine gate_callee (f := 50) rfl ?_); refine gl_ (some 10) Tryd.func50 #[.int .i64 a0] ?_; (with_reducible refine (code_greatest.calls a0 t145 _ ?side1 A4.out).mono ?_); (case side1 => repeat (first | with_reducible exact HG.out | with_reducible exact (Fld.below HG.out HB.out) | exact (Fld.below HG.out sU_) | (with_reducible refine Fld.alloc ?_ _) | (with_reducible refine Fld.drewN ?_ _) | (with_reducible refine Fld.drew ?_))); rintro e w29 ⟨rfl, hb⟩; refine ⟨_, rfl, ?_⟩; refine nx2_ (blk_below (kU_ BK144.out) hb) (below_step sU_ hb) ?_; clear BK144 HB; intro BK144 HB; clear hb) | ((with_reducible refine gate_callee (f := 49) rfl ?_); refine gl_ (some 13) Tryd.func49 #[.int .i64 a0] ?_; (with_reducible refine (field_Valid.calls a0 false _ A5.out).mono ?_); rintro e w' ⟨rfl, ⟨nd, rfl⟩⟩; refine ⟨_, rfl, ?_⟩; (try (rw [drewN_self w29]; generalize hq_ : World.drewN w29 _ = w29; have n0_ : Aside0 (w29.heap[gb144]? = some (.cells #[.int .i64 0, .int .i64 0, .int .u64 0] 24 (0, 0))) := ⟨by rw [← hq_]; exact (kU_ BK144.out)⟩; have n1_ : Aside0 (Below w.heap.size w w29) := ⟨by rw [← hq_]; exact sU_⟩; clear BK144 HB hq_; have BK144 := n0_; have HB := n1_; clear n0_ n1_)); have hcz30_0 := bc0_ BK144.out; have hcz30_1 := bc1_ BK144.out; have hcz30_2 := bc2_ BK144.out; have hfz30_0 := blk_frozen BK144.out 0; have hfz30_1 := blk_frozen BK144.out 1; have hfz30_2 := blk_frozen BK144.out 2))
 refine bodyPost_ret (results_ct rfl _ _ gb144 24 #[.int .i64 0, .int .i64 0, .int .u64 0] (0, 0) _ rfl kp_ Tryd.underlying24 rfl (by kernel_rfl)) rfl ?_
 exact ⟨eW_, sU_⟩

def code_Points.l0 : Nat → List Int → Int → Int → Int → Int → Int → Int → Int → Option (List Int)
 | 0, _, _, _, _, _, _, _, _ => none
 | k + 1, x3, x4, x5, x18, x19, x158000, x158001, x158002 => if x19 < x18 then (if 0 ≤ x19 then (if x19 < (x3.length : Int) then ((field_Mul.f x158000 x4 x5).bind fun t164 => (code_Points.l0 k (x3.set (x19 : Int).toNat x4) t164 x5 x18 (wrap64 (x19 + 1)) x158000 x158001 x158002)) else (none)) else (none)) else (some x3)
def code_Points.f (k : Nat) (a0_0 : Int) (a0_1 : Int) (a0_2 : Int) : Option (List Int) := (code_Size.f a0_0 a0_1 a0_2).bind fun t158 => (if 0 ≤ t158 then (if (t158 : Int).toNat ≤ 35184372088832 then ((some (List.replicate (t158 : Int).toNat 0 : List Int)).bind fun y159 => ((field_Root.f k a0_0 a0_1).bind fun t162 => (code_Points.l0 k y159 a0_2 t162 (y159.length : Int) 0 a0_0 a0_1 a0_2))) else (none)) else (none))
theorem code_Points.mono_l : ∀ k, (∀ y0 y1 y2 y3 y4 y5 y6 y7, LeO (code_Points.l0 k y0 y1 y2 y3 y4 y5 y6 y7) (code_Points.l0 (k + 1) y0 y1 y2 y3 y4 y5 y6 y7))
 | 0 => fun _ _ _ _ _ _ _ _ r h => by simp [code_Points.l0] at h
 | k + 1 => by
  have ih0 := code_Points.mono_l k
  ·intro y0 y1 y2 y3 y4 y5 y6 y7
   unfold code_Points.l0
   with_reducible repeat' first | apply ih0 | apply field_Root.mono | exact LeO.refl _ | exact LeO.none _ | refine LeO.ite ?_ ?_ | refine LeO.bind ?_ (fun _ => ?_)
theorem code_Points.mono : ∀ a0 a1 a2 k, LeO (code_Points.f k a0 a1 a2) (code_Points.f (k + 1) a0 a1 a2) := by
 intro a0 a1 a2 k
 have ih0 := code_Points.mono_l k
 unfold code_Points.f
 with_reducible repeat' first | apply ih0 | apply field_Root.mono | exact LeO.refl _ | exact LeO.none _ | refine LeO.ite ?_ ?_ | refine LeO.bind ?_ (fun _ => ?_)
def code_Points.T2 : Bool × List (List Nat × List Nat) := (true, [([], []), ([0], [0]), ([], []), ([2], [2]), ([], []), ([4], [4]), ([3, 5], [3, 5]), ([1, 6, 0, 1], [1]), ([6, 7, 0, 1, 2, 3, 4, 5, 6, 7], [6])])
def code_Points.B2 : List Nat := [0, 1, 0, 4, 0, 16, 60, 127, 255]
theorem code_Points.tab2 : rtab .any (opsOf Tryd.f21 2) = code_Points.T2 := by kernel_rfl
theorem code_Points.bits2 : waitsOk code_Points.T2.2 code_Points.B2 = true := by kernel_rfl
set_option maxHeartbeats 8000000 in
set_option maxRecDepth 100000 in
theorem code_Points.calls (k : Nat) (a0_0 : Int) (a0_1 : Int) (a0_2 : Int) (r : List Int) (w : World) (hG : Fld w) (h : code_Points.f k a0_0 a0_1 a0_2 = some r) :
  Calls Tryd.prog 21 #[.agg #[.int .i64 a0_0, .int .i64 a0_1, .int .u64 a0_2]] w fun e w' => ∃ v0_ : Value, e = .returned (v0_) ∧ Kd.R (Kd.int .u64) 22 w' w.heap.size (fun _ => True) v0_ r ∧ Below w.heap.size w w' := by
 have hu24 := Tryd.underlying24
 have HG := ak hG
 clear hG
 have HB := ak (Below.refl w.heap.size w)
 have H := h
 clear h
 unfold code_Points.f at H
 revert H
 refine bd_ fun t158 A2 H => ?_
 obtain ⟨c3, H⟩ : (0 ≤ t158) ∧ _ := it_ H
 have c3b0 := eq_true c3
 have c3b1 := decide_eq_true c3
 clear c3
 obtain ⟨c4, H⟩ : ((t158 : Int).toNat ≤ 35184372088832) ∧ _ := it_ H
 have c4b0 := eq_true c4
 have c4b1 := decide_eq_true c4
 clear c4
 obtain ⟨y159, hy159⟩ : ∃ y_ : List Int, y_ = (List.replicate (t158 : Int).toNat 0) := ⟨_, rfl⟩
 first | rw [Option.bind_some, ← hy159] at H | rw [← hy159] at H
 have Ny159 := ak hy159
 clear hy159
 revert H
 refine bd_ fun t162 A5 H => ?_
 have H' := ak H
 clear H
 go_enter Tryd.func21, Tryd.ntmps21
 try go_wp2_with (first | ((with_reducible refine gate_dst (N := 1) rfl ?_); refine bx_ 1 24 #[.int .i64 a0_0, .int .i64 a0_1, .int .u64 a0_2] ?_; intro gb157 hg w6 hbox hb; refine nx4_ (below_step (bU_ HB.out) hb) (hbox) ((hs_ hg (below_size (bU_ HB.out)))) ((hs_ hg (below_size (bU_ HB.out)))) ?_; clear HB; intro HB BK157 GW157 GE157; clear hb hbox hg; have hcz7_0 := bc0_ BK157.out; have hcz7_1 := bc1_ BK157.out; have hcz7_2 := bc2_ BK157.out; have hfz7_0 := blk_frozen BK157.out 0; have hfz7_1 := blk_frozen BK157.out 1; have hfz7_2 := blk_frozen BK157.out 2) | ((with_reducible refine gate_callee (f := 13) rfl ?_); refine gl_ (some 8) Tryd.func13 #[.agg #[.int .i64 a0_0, .int .i64 a0_1, .int .u64 a0_2]] ?_; (with_reducible refine (code_Size.calls a0_0 a0_1 a0_2 t158 _ ?side1 A2.out).mono ?_); (case side1 => repeat (first | with_reducible exact HG.out | with_reducible exact (Fld.below HG.out HB.out) | exact (Fld.below HG.out sU_) | (with_reducible refine Fld.alloc ?_ _) | (with_reducible refine Fld.drewN ?_ _) | (with_reducible refine Fld.drew ?_))); rintro e w8 ⟨rfl, hb⟩; refine ⟨_, rfl, ?_⟩; refine nx2_ (blk_below (kU_ BK157.out) hb) (below_step sU_ hb) ?_; clear BK157 HB; intro BK157 HB; clear hb) | ((with_reducible refine gate_dst (N := 9) rfl ?_); refine R_make (Kd.int .u64) _ 22 rfl (N := 9) rfl 33 _ _ rfl t158 ?hx ?hy Tryd.underlying33 (.int .u64 0) 8 info22 rfl (by decide) (by omega) 0 (ok := fun _ => True) (okp := fun _ => True) rfl (fun _ hk => hk) trivial od_ (Nat.le_trans (Nat.mul_le_mul_right _ (od_ : t158.toNat ≤ 35184372088832)) (by omega)) (Below.refl _ _) (Nat.le_refl _) ?_; (case hx => first | rfl); (case hy => first | rfl); intro v160 w9 ho10 hb hg_ hnew_; clear hg_ hnew_; (first | rw [← Ny159.out] at ho10 | (simp only [Int.reduceToNat] at ho10; rw [← Ny159.out] at ho10)); refine nx3_ (R_lower ho10 (below_size sU_)) (blk_below (kU_ BK157.out) hb) (below_step sU_ hb) ?_; clear BK157 HB; intro HO161 BK157 HB; clear hb ho10))
 refine nx3_ (R_drew HO161.out) (blk_drew BK157.out) (below_drew1 HB.out) ?_
 clear HO161 BK157 HB
 intro HO161 BK157 HB
 refine start_ (n := 9) (S := fun w' => w'.cell? ⟨gb157, 0, none⟩ = some (.int .i64 a0_0) ∧ w'.cell? ⟨gb157, 1, none⟩ = some (.int .i64 a0_1) ∧ w'.cell? ⟨gb157, 2, none⟩ = some (.int .u64 a0_2)) (ds := []) (bv 9 0) (by kernel_rfl) rfl rfl ⟨bc0_ BK157.out, bc1_ BK157.out, bc2_ BK157.out⟩ (fun hHeld => ?_); refine with_tabW code_Points.tab2 code_Points.bits2 (fun HT_ HW_ => ?_)
 generalize w9.drew = w11 at HO161 BK157 HB hHeld ⊢
 refine pq_ 0 10 9 1 HT_.out ?_
 refine pq_ 2 12 9 5 HT_.out ?_
 refine pq_ 4 14 9 21 HT_.out ?_
 refine tq_ 1 11 9 23 HT_.out HW_.out hHeld ?_
 refine tq_ 3 13 9 31 HT_.out HW_.out hHeld ?_
 refine tq_ 5 15 9 63 HT_.out HW_.out hHeld ?_
 refine oq_ 6 16 9 127 HT_.out fun K hK => ?_
 refine gs_ Tryd.func56 #[.int .i64 a0_0, .int .i64 a0_1] ?_
 with_reducible refine (field_Root.calls k a0_0 a0_1 t162 _ ?side1 A5.out).mono ?_
 (case side1 => repeat (first | with_reducible exact HG.out | with_reducible exact (Fld.below HG.out HB.out) | exact (Fld.below HG.out sU_) | (with_reducible refine Fld.alloc ?_ _) | (with_reducible refine Fld.drewN ?_ _) | (with_reducible refine Fld.drew ?_)))
 rintro e w12 ⟨rfl, hb⟩
 refine ⟨_, rfl, ?_⟩
 refine nx3_ (R_below (rU_ HO161.out) hb) (blk_below (kU_ BK157.out) hb) (below_step sU_ hb) ?_
 clear HO161 BK157 HB
 intro HO161 BK157 HB
 (try clear hb)
 (try clear hb2)
 (try clear hk)
 (try clear hi)
 refine hK.out _ _ ⟨bc0_ BK157.out, bc1_ BK157.out, bc2_ BK157.out⟩ (fun hHeld => ?_)
 clear hK K
 refine norm_ (a' := ?_) ?_ ?_
 rotate_left
 ·show Act.put _ (some 16) _ = _
  simp only [Act.put, s1_, s2_, s3_, i64_w, i32_w]
  rfl
 refine pq_ 7 4 9 255 HT_.out ?_
 refine pq_ 8 5 9 511 HT_.out ?_
 refine done_ (done_of HT_.out (by kernel_rfl)) ?_
 obtain ⟨Ao13, co13, eo13⟩ := R_slice HO161.out
 subst eo13
 try go_wp2
 go_loopg [4, 19] k (fun kq v4 v19 w' => ∃ (x3_1 : List Int) (x4_1 : Int) (x19_1 : Int), v4 = .int .u64 x4_1 ∧ v19 = .int .i64 x19_1 ∧ Aside0 (code_Points.l0 kq x3_1 x4_1 t162 (y159.length : Int) x19_1 a0_0 a0_1 a0_2 = some r) ∧ Aside0 (kq ≤ k) ∧ Aside0 (Kd.R (Kd.int .u64) 22 w' w.heap.size (fun _ => True) (.slice Ao13 y159.length co13) x3_1) ∧ Aside0 (w'.heap[gb157]? = some (.cells #[.int .i64 a0_0, .int .i64 a0_1, .int .u64 a0_2] 24 (0, 0))) ∧ Aside0 (Below w.heap.size w w'))
 case atStart => exact ⟨(y159), (a0_2), (0), gb_, gb_, H', ⟨Nat.le_refl _⟩, ⟨rU_ HO161.out⟩, ⟨by (with_reducible repeat (first | refine blk_drewN ?_ _ | refine blk_drew ?_ | refine blk_alloc ?_ _)); exact BK157.out⟩, ⟨sU_⟩⟩
 case round =>
  clear H'
  (try clear c1); (try clear c2); (try clear p2); (try clear c3); (try clear c3b0); (try clear c3b1); (try clear c4); (try clear c4b0); (try clear c4b1); (try clear c5); (try clear c13); (try clear hcz7_0); (try clear hcz7_1); (try clear hcz7_2); (try clear hfz7_0); (try clear hfz7_1); (try clear hfz7_2)
  obtain ⟨x3_1, x4_1, x19_1, rfl, rfl, HA, HK1, HO_3, BK157, HB⟩ := hrel
  have hl3_1 := (R_reads' HO_3.out).1
  rw [hl3_1] at HO_3
  (try simp only [hl3_1])
  (try simp only [hl3_1] at BK157)
  cases gk with
  | zero => exact absurd HA.out (by simp [code_Points.l0])
  | succ k1 =>
   have H := HA.out
   clear HA
   simp only [code_Points.l0] at H
   by_cases c14 : x19_1 < (y159.length : Int)
   ·rw [if_pos c14] at H
    have c14b0 := decide_eq_true c14
    (try (have c14b0r0 := c14b0; simp only [hl3_1] at c14b0r0))
    clear c14
    obtain ⟨c15, H⟩ : (0 ≤ x19_1) ∧ _ := it_ H
    have c15b0 := decide_eq_true c15
    clear c15
    obtain ⟨c16, H⟩ : (x19_1 < (x3_1.length : Int)) ∧ _ := it_ H
    have c16b0 := decide_eq_true c16
    clear c16
    obtain ⟨y163, hy163⟩ : ∃ y_ : List Int, y_ = (x3_1.set (x19_1 : Int).toNat x4_1) := ⟨_, rfl⟩
    first | rw [Option.bind_some, ← hy163] at H | rw [← hy163] at H
    have Ny163 := ak hy163
    clear hy163
    revert H
    refine bd_ fun t164 A18 H => ?_
    have H' := ak H
    clear H
    have p17 : 0 ≤ (x19_1 : Int) := od_
    have q17 : (x19_1 : Int) < ((x3_1.length : Int) : Int) := od_
    obtain ⟨go17, co17, eo17, gb17, gl17, cl17, HG17⟩ := Kd.R_form HO_3.out (by omega)
    (first | cases eo17 | (injection eo17 with ea_ en_ ec_; (first | subst ea_ | (injection ea_ with ea_; subst ea_)); subst ec_; clear en_))
    have GB17 := ak gb17
    have GG17 := ak HG17
    clear gb17 gl17 HG17
    obtain ⟨hx17_0, hf17_0⟩ := Kd.R_celln 0 HO_3.out (x19_1 : Int) p17 q17
    replace p17 := eq_true p17
    replace q17 := eq_true q17
    have HP19 := Kd.R_putg HO_3.out (x19_1 : Int) x4_1
    go_wp2_with (first | ((with_reducible refine gate_store (t := 22) (p := 25) rfl ?_); refine store_event (t := 22) (p := 25) (v := ?vo_w20) (w1 := (wr.setCell ⟨go17, (x19_1 : Int).toNat, none⟩ (.int .u64 x4_1))) ?hg ?ho ?hn ?hr ?_; (case ho => rfl); (case hg => rfl); (case hn => rfl); (case hr => first | (go_simp; done) | (go_simp; rfl)); intro w20 hw; have hg : wr.grownBy w20 (some go17) := (by rw [hw]; exact HP19.2); have hp_ : Kd.R (Kd.int .u64) 22 w20 w.heap.size (fun _ => True) (.slice (some ⟨go17, 0, none⟩) x3_1.length co13) y163 := (by rw [hw, Ny163.out]; exact HP19.1); clear HP19; refine nx3_ (hp_) (blk_grown (g := gb157) (o := .cells #[.int .i64 a0_0, .int .i64 a0_1, .int .u64 a0_2] 24 (0, 0)) (kU_ BK157.out) hg (Kd.R_ne HO_3.out BK157.out (by decide))) ((by rw [hw]; exact below_set (HB.out) GB17.out : Below w.heap.size w w20)) ?_; clear HO_3 BK157 HB; intro HO_3 BK157 HB; clear hg hw hp_; have hcz21_0 := bc0_ BK157.out; have hcz21_1 := bc1_ BK157.out; have hcz21_2 := bc2_ BK157.out; have hfz21_0 := blk_frozen BK157.out 0; have hfz21_1 := blk_frozen BK157.out 1; have hfz21_2 := blk_frozen BK157.out 2) | ((with_reducible refine gate_callee (f := 55) rfl ?_); refine gl_ (some 30) Tryd.func55 #[.int .i64 a0_0, .int .u64 x4_1, .int .u64 t162] ?_; (with_reducible refine (field_Mul.calls a0_0 x4_1 t162 t164 _ ?side1 A18.out).mono ?_); (case side1 => repeat (first | with_reducible exact HG.out | with_reducible exact (Fld.below HG.out HB.out) | exact (Fld.below HG.out sU_) | (with_reducible refine Fld.alloc ?_ _) | (with_reducible refine Fld.drewN ?_ _) | (with_reducible refine Fld.drew ?_))); rintro e w22 ⟨rfl, hb⟩; refine ⟨_, rfl, ?_⟩; refine nx3_ (R_below (rU_ HO_3.out) hb) (blk_below (kU_ BK157.out) hb) (below_step sU_ hb) ?_; clear HO_3 BK157 HB; intro HO_3 BK157 HB; clear hb))
    (try simp only [← hl3_1])
    go_roundg k1
    case measure => have := HK1.out; omega
    case rel => exact ⟨(y163), (t164), (wrap64 (x19_1 + 1)), gb_, gb_, H', ⟨by have := HK1.out; omega⟩, ⟨by (try simp only [hl3_1]); (with_reducible repeat (first | apply Kd.R_alloc | apply Kd.R_drewN | apply R_drew)); exact HO_3.out⟩, ⟨by (try simp only [hl3_1]); (with_reducible repeat (first | refine blk_drewN ?_ _ | refine blk_drew ?_ | refine blk_alloc ?_ _)); exact BK157.out⟩, ⟨sU_⟩⟩
   rw [if_neg c14] at H
   have c14b0 := decide_eq_false c14
   (try (have c14b0r0 := c14b0; simp only [hl3_1] at c14b0r0))
   clear c14
   obtain rfl := Option.some.inj H
   go_wp2
   go_ret
   exact ⟨_, eW_, rU_ HO_3.out, sU_⟩

def field_Reduce.f (a0 : Int) (a1 : Int) : Option (Int) := (field_Valid.f a0).bind fun t171 => (if t171 = true then ((field_P.f a0).bind fun t172 => (if t172 = 0 then (none) else (some (Int.tmod a1 t172)))) else (some 0))
set_option maxHeartbeats 8000000 in
set_option maxRecDepth 100000 in
theorem field_Reduce.calls (a0 : Int) (a1 : Int) (r : Int) (w : World) (hG : Fld w) (h : field_Reduce.f a0 a1 = some r) :
  Calls Tryd.prog 65 #[.int .i64 a0, .int .u64 a1] w fun e w' => e = .returned (.int .u64 r) ∧ Below w.heap.size w w' := by
 have HG := ak hG
 clear hG
 have HB := ak (Below.refl w.heap.size w)
 have H := h
 clear h
 unfold field_Reduce.f at H
 revert H
 refine bd_ fun t171 A3 H => ?_
 by_cases c4 : t171 = true
 ·subst c4
  rw [if_pos rfl] at H
  revert H
  refine bd_ fun t172 A5 H => ?_
  by_cases c6 : t172 = 0
  ·rw [if_pos c6] at H
   exact absurd H (by simp)
  rw [if_neg c6] at H
  have c6b0 := beq_eq_false_iff_ne.mpr c6
  have c6b1 := bne_iff_ne.mpr c6
  obtain rfl := Option.some.inj H
  go_enter Tryd.func65, Tryd.ntmps65
  go_wp2_with (first | ((with_reducible refine gate_callee (f := 49) rfl ?_); refine gl_ (some 6) Tryd.func49 #[.int .i64 a0] ?_; (with_reducible refine (field_Valid.calls a0 true _ A3.out).mono ?_); rintro e w' ⟨rfl, ⟨nd, rfl⟩⟩; refine ⟨_, rfl, ?_⟩) | ((with_reducible refine gate_callee (f := 51) rfl ?_); refine gl_ (some 10) Tryd.func51 #[.int .i64 a0] ?_; (with_reducible refine (field_P.calls a0 t172 _ ?side1 A5.out).mono ?_); (case side1 => exact fU_ HG.out HB.out); rintro e w7 ⟨rfl, hb⟩; refine ⟨_, rfl, ?_⟩; refine nx1_ (below_step (bU_ HB.out) hb) ?_; clear HB; intro HB; clear hb))
  go_ret
  exact ⟨eW_, bU_ HB.out⟩
 replace c4 := Bool.eq_false_iff.mpr c4
 subst c4
 rw [if_neg (show ¬ (false = true) by decide)] at H
 obtain rfl := Option.some.inj H
 go_enter Tryd.func65, Tryd.ntmps65
 go_wp2_with (first | ((with_reducible refine gate_callee (f := 49) rfl ?_); refine gl_ (some 6) Tryd.func49 #[.int .i64 a0] ?_; (with_reducible refine (field_Valid.calls a0 false _ A3.out).mono ?_); rintro e w' ⟨rfl, ⟨nd, rfl⟩⟩; refine ⟨_, rfl, ?_⟩))
 go_ret
 exact ⟨eW_, bU_ HB.out⟩

def transform_greatest.f (a0 : Int) : Option (Int) := (field_Twos.f a0).bind fun t173 => (some (mn t173 18))
set_option maxHeartbeats 8000000 in
set_option maxRecDepth 100000 in
theorem transform_greatest.calls (a0 : Int) (r : Int) (w : World) (hG : Fld w) (h : transform_greatest.f a0 = some r) :
  Calls Tryd.prog 84 #[.int .i64 a0] w fun e w' => e = .returned (.int .i64 r) ∧ Below w.heap.size w w' := by
 have HG := ak hG
 clear hG
 have HB := ak (Below.refl w.heap.size w)
 have H : ((field_Twos.f a0).bind fun t173 => (some (mn t173 18))) = some r := h
 clear h
 revert H
 refine bd_ fun t173 A2 H => ?_
 obtain ⟨ji3, hji3⟩ : ∃ j_ : Int, (mn t173 18) = j_ := ⟨_, rfl⟩
 first | rw [hji3] at H | simp only [hji3] at H
 (try rw [hji3] at A2)
 (try (have hji3h : ji3 ≤ 18 := by (rw [← hji3]; unfold mn; (repeat' split) <;> omega)))
 (try (have hji3g : ji3 ≤ 64 := by omega))
 have hji3_ : (if 18 < t173 then 18 else t173) = ji3 := hji3
 obtain rfl := Option.some.inj H
 go_enter Tryd.func84, Tryd.ntmps84
 go_wp2_with (first | ((with_reducible refine gate_callee (f := 77) rfl ?_); refine gl_ (some 4) Tryd.func77 #[.int .i64 a0] ?_; (with_reducible refine (field_Twos.calls a0 t173 _ ?side1 A2.out).mono ?_); (case side1 => exact fU_ HG.out HB.out); rintro e w4 ⟨rfl, hb⟩; refine ⟨_, rfl, ?_⟩; refine nx1_ (below_step (bU_ HB.out) hb) ?_; clear HB; intro HB; clear hb))
 go_ret
 exact ⟨by first | rfl | (simp [errW_none, errW_some] <;> rfl) | (simp only [← hji3]; first | rfl | (simp [errW_none, errW_some] <;> rfl)) | (simp [*, errW_none, errW_some] <;> rfl), bU_ HB.out⟩

def poly_trim.l0 : Nat → List Int → Int → Option (List Int)
 | 0, _, _ => none
 | k + 1, x0, x3 => if x3 > 0 then (if 0 ≤ (wrap64 (x3 - 1)) then (if (wrap64 (x3 - 1)) < (x0.length : Int) then (if (rd x0 (wrap64 (x3 - 1))) = 0 then (poly_trim.l0 k x0 (wrap64 (x3 - 1))) else (if 0 ≤ x3 then (if x3 ≤ (x0.length : Int) then (some (x0.take (x3 : Int).toNat)) else (none)) else (none))) else (none)) else (none)) else (if 0 ≤ x3 then (if x3 ≤ (x0.length : Int) then (some (x0.take (x3 : Int).toNat)) else (none)) else (none))
def poly_trim.f (k : Nat) (l0 : List Int) : Option (List Int) := poly_trim.l0 k l0 (l0.length : Int)
theorem poly_trim.mono_l : ∀ k, (∀ y0 y1, LeO (poly_trim.l0 k y0 y1) (poly_trim.l0 (k + 1) y0 y1))
 | 0 => fun _ _ r h => by simp [poly_trim.l0] at h
 | k + 1 => by
  have ih0 := poly_trim.mono_l k
  ·intro y0 y1
   unfold poly_trim.l0
   with_reducible repeat' first | apply ih0 | exact LeO.refl _ | exact LeO.none _ | refine LeO.ite ?_ ?_ | refine LeO.bind ?_ (fun _ => ?_)
theorem poly_trim.mono : ∀ a0 k, LeO (poly_trim.f k a0) (poly_trim.f (k + 1) a0) := by
 intro a0 k
 have ih0 := poly_trim.mono_l k
 unfold poly_trim.f
 with_reducible repeat' first | apply ih0 | exact LeO.refl _ | exact LeO.none _ | refine LeO.ite ?_ ?_ | refine LeO.bind ?_ (fun _ => ?_)
set_option maxHeartbeats 8000000 in
set_option maxRecDepth 100000 in
theorem poly_trim.calls (k : Nat) (P0_ : Nat → Prop) (u9000_ : Value) (l0 : List Int) (r : List Int) (w0 w : World) (hB : Below w0.heap.size w0 w) (ho0 : Kd.R (Kd.int .u64) 22 w w0.heap.size P0_ u9000_ l0) (h : poly_trim.f k l0 = some r) :
  Calls Tryd.prog 72 #[u9000_] w fun e w' => ∃ v0_ : Value, e = .returned (v0_) ∧ Kd.R (Kd.int .u64) 22 w' w0.heap.size (fun k_ => (P0_ k_ ∨ w.heap.size ≤ k_)) v0_ r ∧ Below w0.heap.size w0 w' ∧ Kept w w' (fun k_ => P0_ k_) := by
 have HO0 := ak (show Kd.R (Kd.int .u64) 22 w w0.heap.size (fun k_ => (P0_ k_ ∨ w.heap.size ≤ k_)) u9000_ l0 from R_mono ho0 (fun k_ hk => (.inl hk)))
 have HK := ak (Kept.refl w (fun k_ => P0_ k_))
 have HW0 := ak hB.size
 have HB := ak hB
 clear hB
 have H : (poly_trim.l0 k l0 (l0.length : Int)) = some r := h
 clear h
 have H' := ak H
 clear H
 obtain ⟨Ao2, co2, eo2⟩ := R_slice HO0.out
 subst eo2
 go_enter Tryd.func72, Tryd.ntmps72
 go_wp2
 go_loopg [3] k (fun kq v3 w' => ∃ (x3_1 : Int), v3 = .int .i64 x3_1 ∧ Aside0 (poly_trim.l0 kq l0 x3_1 = some r) ∧ Aside0 (kq ≤ k) ∧ Aside0 (Kd.R (Kd.int .u64) 22 w' w0.heap.size (fun k_ => (P0_ k_ ∨ w.heap.size ≤ k_)) (.slice Ao2 l0.length co2) l0) ∧ Aside0 (Kept w w' (fun k_ => P0_ k_)) ∧ Aside0 (Below w0.heap.size w0 w'))
 case atStart => exact ⟨((l0.length : Int)), gb_, H', ⟨Nat.le_refl _⟩, ⟨rU_ HO0.out⟩, ⟨kK_⟩, ⟨bU_ HB.out⟩⟩
 case round =>
  clear H'
  try clear p2
  obtain ⟨x3_1, rfl, HA, HK1, HO_0, HK, HB⟩ := hrel
  cases gk with
  | zero => exact absurd HA.out (by simp [poly_trim.l0])
  | succ k1 =>
   have H := HA.out
   clear HA
   simp only [poly_trim.l0] at H
   by_cases c3 : x3_1 > 0
   ·rw [if_pos c3] at H
    have c3b0 : decide (0 < x3_1) = true := decide_eq_true c3
    clear c3
    obtain ⟨ji4, hji4⟩ : ∃ j_ : Int, (wrap64 (x3_1 - 1)) = j_ := ⟨_, rfl⟩
    first | rw [hji4] at H | simp only [hji4] at H
    have hji4w : (IntKind.i64.wrap (x3_1 - 1)) = ji4 := (i64_w _).trans hji4
    obtain ⟨c5, H⟩ : (0 ≤ (ji4)) ∧ _ := it_ H
    have c5b0 := decide_eq_true c5
    clear c5
    obtain ⟨c6, H⟩ : ((ji4) < (l0.length : Int)) ∧ _ := it_ H
    have c6b0 := decide_eq_true c6
    clear c6
    by_cases c7 : (rd l0 (ji4)) = 0
    ·rw [if_pos c7] at H
     have c7b0 := beq_iff_eq.mpr c7
     have c7b1 := bne_eq_false_iff_eq.mpr c7
     clear c7
     have H' := ak H
     clear H
     have p174 : 0 ≤ ((ji4) : Int) := od_
     have q174 : (ji4) < (l0.length : Int) := od_
     obtain ⟨ad174, e174, hx174_0⟩ := Kd.at_int (R_reads' HO_0.out).2.2 (ji4) p174 q174
     cases e174
     replace p174 := eq_true p174
     replace q174 := eq_true q174
     go_wp2
     go_roundg k1
     case measure => have := HK1.out; omega
     case rel => exact ⟨(ji4), (by first | rfl | (simp; done) | (simp only [← hji4] <;> (first | rfl | simp)) | (simp [*]; done)), H', ⟨by have := HK1.out; omega⟩, ⟨rU_ HO_0.out⟩, ⟨kK_⟩, ⟨bU_ HB.out⟩⟩
    rw [if_neg c7] at H
    have c7b0 := beq_eq_false_iff_ne.mpr c7
    have c7b1 := bne_iff_ne.mpr c7
    obtain ⟨c8, H⟩ : (0 ≤ x3_1) ∧ _ := it_ H
    have c8b0 := eq_true c8
    have c8b1 := decide_eq_true c8
    clear c8
    obtain ⟨c9, H⟩ : (x3_1 ≤ (l0.length : Int)) ∧ _ := it_ H
    have c9b0 := eq_true c9
    have c9b1 := decide_eq_true c9
    clear c9
    obtain ⟨y175, hy175⟩ : ∃ y_ : List Int, y_ = (l0.take (x3_1 : Int).toNat) := ⟨_, rfl⟩
    first | rw [Option.bind_some, ← hy175] at H | rw [← hy175] at H
    have Ny175 := ak hy175
    clear hy175
    obtain rfl := Option.some.inj H
    have p174 : 0 ≤ ((ji4) : Int) := od_
    have q174 : (ji4) < (l0.length : Int) := od_
    obtain ⟨ad174, e174, hx174_0⟩ := Kd.at_int (R_reads' HO_0.out).2.2 (ji4) p174 q174
    cases e174
    replace p174 := eq_true p174
    replace q174 := eq_true q174
    have q10 : (x3_1 : Int) ≤ ((l0.length : Int) : Int) := od_
    obtain ⟨i010, hi010, _, hsz10, _⟩ := info_parts info22
    have hcut10 := cut_to (P := Tryd.prog) 33 22 .i64 Tryd.underlying33 hi010 (some ad174) l0.length co2 x3_1 od_ q10 (R_reads' HO_0.out).2.1
    have hr10 := Kd.R_take (m := (x3_1 : Int).toNat) HO_0.out (by omega)
    have hy10 : y175.length = (x3_1 : Int).toNat := (by rw [Ny175.out, List.length_take]; omega)
    rw [← Ny175.out] at hr10
    rw [← hy10] at hr10 hcut10
    clear hy10 hi010 hsz10 HO_0
    have HO177 := ak hr10
    clear hr10
    replace q10 := eq_true q10
    go_wp2
    go_ret
    exact ⟨_, by first | rfl | (simp [errW_none, errW_some] <;> rfl) | (simp only [← hji4]; first | rfl | (simp [errW_none, errW_some] <;> rfl)) | (simp [*, errW_none, errW_some] <;> rfl), rU_ HO177.out, bU_ HB.out, kK_⟩
   rw [if_neg c3] at H
   have c3b0 : decide (0 < x3_1) = false := decide_eq_false c3
   clear c3
   obtain ⟨c11, H⟩ : (0 ≤ x3_1) ∧ _ := it_ H
   have c11b0 := eq_true c11
   have c11b1 := decide_eq_true c11
   clear c11
   obtain ⟨c12, H⟩ : (x3_1 ≤ (l0.length : Int)) ∧ _ := it_ H
   have c12b0 := eq_true c12
   have c12b1 := decide_eq_true c12
   clear c12
   obtain ⟨y178, hy178⟩ : ∃ y_ : List Int, y_ = (l0.take (x3_1 : Int).toNat) := ⟨_, rfl⟩
   first | rw [Option.bind_some, ← hy178] at H | rw [← hy178] at H
   have Ny178 := ak hy178
   clear hy178
   obtain rfl := Option.some.inj H
   have q13 : (x3_1 : Int) ≤ ((l0.length : Int) : Int) := od_
   obtain ⟨i013, hi013, _, hsz13, _⟩ := info_parts info22
   have hcut13 := cut_to (P := Tryd.prog) 33 22 .i64 Tryd.underlying33 hi013 Ao2 l0.length co2 x3_1 od_ q13 (R_reads' HO_0.out).2.1
   have hr13 := Kd.R_take (m := (x3_1 : Int).toNat) HO_0.out (by omega)
   have hy13 : y178.length = (x3_1 : Int).toNat := (by rw [Ny178.out, List.length_take]; omega)
   rw [← Ny178.out] at hr13
   rw [← hy13] at hr13 hcut13
   clear hy13 hi013 hsz13 HO_0
   have HO180 := ak hr13
   clear hr13
   replace q13 := eq_true q13
   go_wp2
   go_ret
   exact ⟨_, eW_, rU_ HO180.out, bU_ HB.out, kK_⟩

def poly_Shift.l0 : Nat → Int → Int → List Int → Int → List Int → Int → Int → Option (List Int)
 | 0, _, _, _, _, _, _, _ => none
 | k + 1, x0, x2, x7, x8, x14, x15, x16 => if x16 < x15 then (if 0 ≤ x16 then (if x16 < (x14.length : Int) then ((field_Mul.f x0 (rd x14 x16) x8).bind fun t185 => (if x16 < (x7.length : Int) then ((field_Mul.f x0 x8 x2).bind fun t187 => (poly_Shift.l0 k x0 x2 (x7.set (x16 : Int).toNat t185) t187 x14 x15 (wrap64 (x16 + 1)))) else (none))) else (none)) else (none)) else ((poly_trim.f k x7).bind fun t188 => (some t188))
def poly_Shift.f (k : Nat) (a0 : Int) (l1 : List Int) (a2 : Int) : Option (List Int) := if 0 ≤ (l1.length : Int) then (if ((l1.length : Int) : Int).toNat ≤ 35184372088832 then (poly_Shift.l0 k a0 a2 (List.replicate ((l1.length : Int) : Int).toNat 0) 1 l1 (l1.length : Int) 0) else (none)) else (none)
theorem poly_Shift.mono_l : ∀ k, (∀ y0 y1 y2 y3 y4 y5 y6, LeO (poly_Shift.l0 k y0 y1 y2 y3 y4 y5 y6) (poly_Shift.l0 (k + 1) y0 y1 y2 y3 y4 y5 y6))
 | 0 => fun _ _ _ _ _ _ _ r h => by simp [poly_Shift.l0] at h
 | k + 1 => by
  have ih0 := poly_Shift.mono_l k
  ·intro y0 y1 y2 y3 y4 y5 y6
   unfold poly_Shift.l0
   with_reducible repeat' first | apply ih0 | apply poly_trim.mono | exact LeO.refl _ | exact LeO.none _ | refine LeO.ite ?_ ?_ | refine LeO.bind ?_ (fun _ => ?_)
theorem poly_Shift.mono : ∀ a0 a1 a2 k, LeO (poly_Shift.f k a0 a1 a2) (poly_Shift.f (k + 1) a0 a1 a2) := by
 intro a0 a1 a2 k
 have ih0 := poly_Shift.mono_l k
 unfold poly_Shift.f
 with_reducible repeat' first | apply ih0 | apply poly_trim.mono | exact LeO.refl _ | exact LeO.none _ | refine LeO.ite ?_ ?_ | refine LeO.bind ?_ (fun _ => ?_)
set_option maxHeartbeats 8000000 in
set_option maxRecDepth 100000 in
theorem poly_Shift.calls (k : Nat) (a0 : Int) (A1 : Option Addr) (c1 : Nat) (l1 : List Int) (a2 : Int) (r : List Int) (w : World) (hG : Fld w) (hr1 : Kd.C (Kd.int .u64) w A1 l1.length l1) (hc1 : l1.length ≤ c1) (h : poly_Shift.f k a0 l1 a2 = some r) :
  Calls Tryd.prog 92 #[.int .i64 a0, .slice A1 l1.length c1, .int .u64 a2] w fun e w' => ∃ v0_ : Value, e = .returned (v0_) ∧ Kd.R (Kd.int .u64) 22 w' w.heap.size (fun _ => True) v0_ r ∧ Below w.heap.size w w' := by
 have HG := ak hG
 clear hG
 have HR1 := ak hr1
 have HC1 := ak hc1
 clear hr1 hc1
 have HB := ak (Below.refl w.heap.size w)
 have H := h
 clear h
 unfold poly_Shift.f at H
 obtain ⟨c4, H⟩ : (0 ≤ (l1.length : Int)) ∧ _ := it_ H
 have c4b0 := eq_true c4
 have c4b1 := decide_eq_true c4
 clear c4
 obtain ⟨c5, H⟩ : (((l1.length : Int) : Int).toNat ≤ 35184372088832) ∧ _ := it_ H
 have c5b0 := eq_true c5
 have c5b1 := decide_eq_true c5
 clear c5
 obtain ⟨y181, hy181⟩ : ∃ y_ : List Int, y_ = (List.replicate ((l1.length : Int) : Int).toNat 0) := ⟨_, rfl⟩
 first | rw [Option.bind_some, ← hy181] at H | rw [← hy181] at H
 have Ny181 := ak hy181
 clear hy181
 have H' := ak H
 clear H
 go_enter Tryd.func92, Tryd.ntmps92
 go_wp2_with (first | ((with_reducible refine gate_dst (N := 13) rfl ?_); refine R_make (Kd.int .u64) _ 22 rfl (N := 13) rfl 33 _ _ rfl (l1.length : Int) ?hx ?hy Tryd.underlying33 (.int .u64 0) 8 info22 rfl (by decide) (by omega) 0 (ok := fun _ => True) (okp := fun _ => True) rfl (fun _ hk => hk) trivial od_ (Nat.le_trans (Nat.mul_le_mul_right _ (od_ : (l1.length : Int).toNat ≤ 35184372088832)) (by omega)) (Below.refl _ _) (Nat.le_refl _) ?_; (case hx => first | rfl); (case hy => first | rfl); intro v182 w6 ho7 hb hg_ hnew_; clear hg_ hnew_; (first | rw [← Ny181.out] at ho7 | (simp only [Int.reduceToNat] at ho7; rw [← Ny181.out] at ho7)); refine nx2_ (R_lower ho7 (below_size (bU_ HB.out))) (below_step (bU_ HB.out) hb) ?_; clear HB; intro HO183 HB; clear hb ho7))
 go_loopg [8, 16] k (fun kq v8 v16 w' => ∃ (x7_1 : List Int) (x8_1 : Int) (x16_1 : Int), v8 = .int .u64 x8_1 ∧ v16 = .int .i64 x16_1 ∧ Aside0 (poly_Shift.l0 kq a0 a2 x7_1 x8_1 l1 (l1.length : Int) x16_1 = some r) ∧ Aside0 (kq ≤ k) ∧ Aside0 (Kd.R (Kd.int .u64) 22 w' w.heap.size (fun _ => True) v182 x7_1) ∧ Aside0 (Below w.heap.size w w'))
 case atStart => exact ⟨(y181), (1), (0), gb_, gb_, H', ⟨Nat.le_refl _⟩, ⟨rU_ HO183.out⟩, ⟨bU_ HB.out⟩⟩
 case round =>
  clear H'
  (try clear c1); (try clear p2); (try clear c4); (try clear c4b0); (try clear c4b1); (try clear c5); (try clear c5b0); (try clear c5b1)
  obtain ⟨x7_1, x8_1, x16_1, rfl, rfl, HA, HK1, HO_7, HB⟩ := hrel
  cases gk with
  | zero => exact absurd HA.out (by simp [poly_Shift.l0])
  | succ k1 =>
   have H := HA.out
   clear HA
   simp only [poly_Shift.l0] at H
   by_cases c8 : x16_1 < (l1.length : Int)
   ·rw [if_pos c8] at H
    have c8b0 := decide_eq_true c8
    clear c8
    obtain ⟨c9, H⟩ : (0 ≤ x16_1) ∧ _ := it_ H
    have c9b0 := decide_eq_true c9
    clear c9
    obtain ⟨c10, H⟩ : (x16_1 < (l1.length : Int)) ∧ _ := it_ H
    have c10b0 := decide_eq_true c10
    clear c10
    revert H
    refine bd_ fun t185 A11 H => ?_
    obtain ⟨c12, H⟩ : (x16_1 < (x7_1.length : Int)) ∧ _ := it_ H
    have c12b0 := decide_eq_true c12
    clear c12
    obtain ⟨y186, hy186⟩ : ∃ y_ : List Int, y_ = (x7_1.set (x16_1 : Int).toNat t185) := ⟨_, rfl⟩
    first | rw [Option.bind_some, ← hy186] at H | rw [← hy186] at H
    have Ny186 := ak hy186
    clear hy186
    revert H
    refine bd_ fun t187 A14 H => ?_
    have H' := ak H
    clear H
    have p184 : 0 ≤ (x16_1 : Int) := od_
    have q184 : x16_1 < (l1.length : Int) := od_
    obtain ⟨ad184, e184, hx184_0⟩ := Kd.at_int HR1.out x16_1 p184 q184
    cases e184
    replace hx184_0 := (HB.out.cell (World.block_lt_of_cell? w _ hx184_0)).trans hx184_0
    replace p184 := eq_true p184
    replace q184 := eq_true q184
    go_wp2_with (first | ((with_reducible refine gate_callee (f := 55) rfl ?_); refine gl_ (some 26) Tryd.func55 #[.int .i64 a0, .int .u64 (rd l1 x16_1), .int .u64 x8_1] ?_; (with_reducible refine (field_Mul.calls a0 (rd l1 x16_1) x8_1 t185 _ ?side1 A11.out).mono ?_); (case side1 => exact fU_ HG.out HB.out); rintro e w15 ⟨rfl, hb⟩; refine ⟨_, rfl, ?_⟩; refine nx2_ (R_below (rU_ HO_7.out) hb) (below_step (bU_ HB.out) hb) ?_; clear HO_7 HB; intro HO_7 HB; clear hb; have p13 : 0 ≤ (x16_1 : Int) := od_; have q13 : (x16_1 : Int) < ((x7_1.length : Int) : Int) := od_; obtain ⟨go13, co13, eo13, gb13, gl13, cl13, HG13⟩ := Kd.R_form HO_7.out (by omega); (first | cases eo13 | (injection eo13 with ea_ en_ ec_; (first | subst ea_ | (injection ea_ with ea_; subst ea_)); subst ec_; clear en_)); have GB13 := ak gb13; have GG13 := ak HG13; clear gb13 gl13 HG13; obtain ⟨hx13_0, hf13_0⟩ := Kd.R_celln 0 HO_7.out (x16_1 : Int) p13 q13; replace p13 := eq_true p13; replace q13 := eq_true q13; obtain ⟨hy16_, hz16_⟩ := Kd.R_celln 0 HO_7.out (x16_1 : Int) od_ od_; have HP16 := Kd.R_putg HO_7.out (x16_1 : Int) t185) | ((with_reducible refine gate_store (t := 22) (p := 27) rfl ?_); refine store_event (t := 22) (p := 27) (v := ?vo_w17) (w1 := (w15.setCell ⟨go13, (x16_1 : Int).toNat, none⟩ (.int .u64 t185))) ?hg ?ho ?hn ?hr ?_; (case ho => rfl); (case hg => rfl); (case hn => rfl); (case hr => first | (go_simp; done) | (go_simp; rfl)); intro w17 hw; have hg : w15.grownBy w17 (some go13) := (by rw [hw]; exact HP16.2); have hp_ : Kd.R (Kd.int .u64) 22 w17 w.heap.size (fun _ => True) (.slice (some ⟨go13, 0, none⟩) x7_1.length co13) y186 := (by rw [hw, Ny186.out]; exact HP16.1); clear HP16; refine nx2_ (hp_) ((by rw [hw]; exact below_set (HB.out) GB13.out : Below w.heap.size w w17)) ?_; clear HO_7 HB; intro HO_7 HB; clear hg hw hp_) | ((with_reducible refine gate_callee (f := 55) rfl ?_); refine gl_ (some 31) Tryd.func55 #[.int .i64 a0, .int .u64 x8_1, .int .u64 a2] ?_; (with_reducible refine (field_Mul.calls a0 x8_1 a2 t187 _ ?side1 A14.out).mono ?_); (case side1 => exact fU_ HG.out HB.out); rintro e w18 ⟨rfl, hb⟩; refine ⟨_, rfl, ?_⟩; refine nx2_ (R_below (rU_ HO_7.out) hb) (below_step (bU_ HB.out) hb) ?_; clear HO_7 HB; intro HO_7 HB; clear hb))
    go_roundg k1
    case measure => have := HK1.out; omega
    case rel => exact ⟨(y186), (t187), (wrap64 (x16_1 + 1)), gb_, gb_, H', ⟨by have := HK1.out; omega⟩, ⟨rU_ HO_7.out⟩, ⟨bU_ HB.out⟩⟩
   rw [if_neg c8] at H
   have c8b0 := decide_eq_false c8
   clear c8
   revert H
   refine bd_ fun t188 A19 H => ?_
   obtain rfl := Option.some.inj H
   obtain ⟨Ao20, co20, eo20⟩ := R_slice HO_7.out
   subst eo20
   go_wp2_with (first | ((with_reducible refine gate_callee (f := 72) rfl ?_); refine gl_ (some 34) Tryd.func72 #[.slice Ao20 x7_1.length co20] ?_; (with_reducible refine (poly_trim.calls k1 (fun k_ => some k_ = (.slice Ao20 x7_1.length co20 : Value).ownBlock) (.slice Ao20 x7_1.length co20) x7_1 t188 w _ ?side1 ?side2 A19.out).mono ?_); (case side1 => repeat (first | (with_reducible first | exact HB.out | apply below_alloc | apply pw_below_drewN | apply below_drew1) | exact HB.out)); (case side2 => exact R_tight rfl HO_7.out); rintro e w21 ⟨v189, rfl, ho0, hb, hkp⟩; refine ⟨_, rfl, ?_⟩; refine nx2_ (R_mono (ok' := fun k_ => True) ho0 (fun k_ hk_ => trivial)) (hb) ?_; clear HB HO_7; intro HO190 HB; clear hb hkp ho0))
   go_ret
   exact ⟨_, eW_, rU_ HO190.out, bU_ HB.out⟩


def bits_TrailingZeros64.f (a0 : Int) : Option (Int) := tz64 a0
theorem bits_TrailingZeros64.calls (a0 : Int) (r : Int) (w : World) (hG : Fld w) (h : bits_TrailingZeros64.f a0 = some r) :
  Calls Tryd.prog 117 #[.int .u64 a0] w fun e w' => e = .returned (.int .i64 r) ∧ Below w.heap.size w w' := tz64_calls a0 r w hG h

def bits_TrailingZeros.f (a0 : Int) : Option (Int) := (bits_TrailingZeros64.f a0).bind fun t191 => (some t191)
set_option maxHeartbeats 8000000 in
set_option maxRecDepth 100000 in
theorem bits_TrailingZeros.calls (a0 : Int) (r : Int) (w : World) (hG : Fld w) (h : bits_TrailingZeros.f a0 = some r) :
  Calls Tryd.prog 105 #[.int .u64 a0] w fun e w' => e = .returned (.int .i64 r) ∧ Below w.heap.size w w' := by
 have HG := ak hG
 clear hG
 have HB := ak (Below.refl w.heap.size w)
 have H : ((bits_TrailingZeros64.f a0).bind fun t191 => (some t191)) = some r := h
 clear h
 revert H
 refine bd_ fun t191 A2 H => ?_
 obtain rfl := Option.some.inj H
 go_enter Tryd.func105, Tryd.ntmps105
 go_wp2_with (first | ((with_reducible refine gate_callee (f := 117) rfl ?_); refine gl_ (some 7) Tryd.func117 #[.int .u64 a0] ?_; (with_reducible refine (bits_TrailingZeros64.calls a0 t191 _ ?side1 A2.out).mono ?_); (case side1 => exact fU_ HG.out HB.out); rintro e w3 ⟨rfl, hb⟩; refine ⟨_, rfl, ?_⟩; refine nx1_ (below_step (bU_ HB.out) hb) ?_; clear HB; intro HB; clear hb))
 go_ret
 exact ⟨eW_, bU_ HB.out⟩

def bits_ReverseBytes64.f (a0 : Int) : Option (Int) := some (Go.bits .or .u64 ((Go.bits .or .u64 (Go.bits .and .u64 ((Go.bits .or .u64 (Go.bits .and .u64 (a0 / 256) 71777214294589695) (IntKind.u64.wrap ((Go.bits .and .u64 a0 71777214294589695) * 256))) / 65536) 281470681808895) (IntKind.u64.wrap ((Go.bits .and .u64 (Go.bits .or .u64 (Go.bits .and .u64 (a0 / 256) 71777214294589695) (IntKind.u64.wrap ((Go.bits .and .u64 a0 71777214294589695) * 256))) 281470681808895) * 65536))) / 4294967296) (IntKind.u64.wrap ((Go.bits .or .u64 (Go.bits .and .u64 ((Go.bits .or .u64 (Go.bits .and .u64 (a0 / 256) 71777214294589695) (IntKind.u64.wrap ((Go.bits .and .u64 a0 71777214294589695) * 256))) / 65536) 281470681808895) (IntKind.u64.wrap ((Go.bits .and .u64 (Go.bits .or .u64 (Go.bits .and .u64 (a0 / 256) 71777214294589695) (IntKind.u64.wrap ((Go.bits .and .u64 a0 71777214294589695) * 256))) 281470681808895) * 65536))) * 4294967296)))
set_option maxHeartbeats 8000000 in
set_option maxRecDepth 100000 in
theorem bits_ReverseBytes64.calls (a0 : Int) (r : Int) (w : World) (h : bits_ReverseBytes64.f a0 = some r) :
  Calls Tryd.prog 118 #[.int .u64 a0] w fun e w' => e = .returned (.int .u64 r) ∧ Drawn0 w w' := by
 have H := h
 clear h
 unfold bits_ReverseBytes64.f at H
 obtain rfl := Option.some.inj H
 go_enter Tryd.func118, Tryd.ntmps118
 go_wp2
 go_ret
 exact ⟨by first | rfl | (simp; done) | (simp [*]; done), by repeat (first | exact Drawn0.refl _ | apply Drawn0.step)⟩

def bits_Reverse64.f (a0 : Int) : Option (Int) := (bits_ReverseBytes64.f (Go.bits .or .u64 (Go.bits .and .u64 ((Go.bits .or .u64 (Go.bits .and .u64 ((Go.bits .or .u64 (Go.bits .and .u64 (a0 / 2) 6148914691236517205) (IntKind.u64.wrap ((Go.bits .and .u64 a0 6148914691236517205) * 2))) / 4) 3689348814741910323) (IntKind.u64.wrap ((Go.bits .and .u64 (Go.bits .or .u64 (Go.bits .and .u64 (a0 / 2) 6148914691236517205) (IntKind.u64.wrap ((Go.bits .and .u64 a0 6148914691236517205) * 2))) 3689348814741910323) * 4))) / 16) 1085102592571150095) (IntKind.u64.wrap ((Go.bits .and .u64 (Go.bits .or .u64 (Go.bits .and .u64 ((Go.bits .or .u64 (Go.bits .and .u64 (a0 / 2) 6148914691236517205) (IntKind.u64.wrap ((Go.bits .and .u64 a0 6148914691236517205) * 2))) / 4) 3689348814741910323) (IntKind.u64.wrap ((Go.bits .and .u64 (Go.bits .or .u64 (Go.bits .and .u64 (a0 / 2) 6148914691236517205) (IntKind.u64.wrap ((Go.bits .and .u64 a0 6148914691236517205) * 2))) 3689348814741910323) * 4))) 1085102592571150095) * 16)))).bind fun t192 => (some t192)
set_option maxHeartbeats 8000000 in
set_option maxRecDepth 100000 in
theorem bits_Reverse64.calls (a0 : Int) (r : Int) (w : World) (h : bits_Reverse64.f a0 = some r) :
  Calls Tryd.prog 108 #[.int .u64 a0] w fun e w' => e = .returned (.int .u64 r) ∧ Drawn0 w w' := by
 have H := h
 clear h
 unfold bits_Reverse64.f at H
 revert H
 refine bd_ fun t192 A2 H => ?_
 obtain rfl := Option.some.inj H
 go_enter Tryd.func108, Tryd.ntmps108
 go_wp2_with (first | ((with_reducible refine gate_callee (f := 118) rfl ?_); refine gl_ (some 25) Tryd.func118 #[.int .u64 (Go.bits .or .u64 (Go.bits .and .u64 ((Go.bits .or .u64 (Go.bits .and .u64 ((Go.bits .or .u64 (Go.bits .and .u64 (a0 / 2) 6148914691236517205) (IntKind.u64.wrap ((Go.bits .and .u64 a0 6148914691236517205) * 2))) / 4) 3689348814741910323) (IntKind.u64.wrap ((Go.bits .and .u64 (Go.bits .or .u64 (Go.bits .and .u64 (a0 / 2) 6148914691236517205) (IntKind.u64.wrap ((Go.bits .and .u64 a0 6148914691236517205) * 2))) 3689348814741910323) * 4))) / 16) 1085102592571150095) (IntKind.u64.wrap ((Go.bits .and .u64 (Go.bits .or .u64 (Go.bits .and .u64 ((Go.bits .or .u64 (Go.bits .and .u64 (a0 / 2) 6148914691236517205) (IntKind.u64.wrap ((Go.bits .and .u64 a0 6148914691236517205) * 2))) / 4) 3689348814741910323) (IntKind.u64.wrap ((Go.bits .and .u64 (Go.bits .or .u64 (Go.bits .and .u64 (a0 / 2) 6148914691236517205) (IntKind.u64.wrap ((Go.bits .and .u64 a0 6148914691236517205) * 2))) 3689348814741910323) * 4))) 1085102592571150095) * 16)))] ?_; (with_reducible refine (bits_ReverseBytes64.calls (Go.bits .or .u64 (Go.bits .and .u64 ((Go.bits .or .u64 (Go.bits .and .u64 ((Go.bits .or .u64 (Go.bits .and .u64 (a0 / 2) 6148914691236517205) (IntKind.u64.wrap ((Go.bits .and .u64 a0 6148914691236517205) * 2))) / 4) 3689348814741910323) (IntKind.u64.wrap ((Go.bits .and .u64 (Go.bits .or .u64 (Go.bits .and .u64 (a0 / 2) 6148914691236517205) (IntKind.u64.wrap ((Go.bits .and .u64 a0 6148914691236517205) * 2))) 3689348814741910323) * 4))) / 16) 1085102592571150095) (IntKind.u64.wrap ((Go.bits .and .u64 (Go.bits .or .u64 (Go.bits .and .u64 ((Go.bits .or .u64 (Go.bits .and .u64 (a0 / 2) 6148914691236517205) (IntKind.u64.wrap ((Go.bits .and .u64 a0 6148914691236517205) * 2))) / 4) 3689348814741910323) (IntKind.u64.wrap ((Go.bits .and .u64 (Go.bits .or .u64 (Go.bits .and .u64 (a0 / 2) 6148914691236517205) (IntKind.u64.wrap ((Go.bits .and .u64 a0 6148914691236517205) * 2))) 3689348814741910323) * 4))) 1085102592571150095) * 16))) t192 _ A2.out).mono ?_); rintro e w' ⟨rfl, ⟨nd, rfl⟩⟩; refine ⟨_, rfl, ?_⟩))
 go_ret
 exact ⟨by first | rfl | (simp; done) | (simp [*]; done), by repeat (first | exact Drawn0.refl _ | apply Drawn0.step)⟩


end Go.Proofs.YtedapdagagkajaaDoor.Q

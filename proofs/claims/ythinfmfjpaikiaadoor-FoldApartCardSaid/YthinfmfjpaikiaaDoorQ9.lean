import Derived.Test.YthinfmfjpaikiaaDoorQ0
import Derived.Test.YthinfmfjpaikiaaDoorQ2
import Derived.Test.YthinfmfjpaikiaaDoorQ3
namespace Go.Proofs.YthinfmfjpaikiaaDoor.Q
open Go.RowKit Go.Proofs.YthinfmfjpaikiaaDoorW.PrintWords Go.Proofs.YthinfmfjpaikiaaDoorW.PrintLast Go.Proofs.YthinfmfjpaikiaaDoorW.PrintMore
attribute [local go_sem] max2_int min2_int max_two min_two max_three min_three max_four min_four   -- for this text's walks alone
attribute [local go_sem high] eqA8
set_option linter.unusedVariables false
set_option linter.unusedSimpArgs false

mutual
def attestorlaw09_FoldApart.j0 : Nat → Int → Int → Int → Int → Int → Int → Int → Int → Int → Int → Int → Int → Int → Int → Int → Int → Int → Int → Int → Option (Bool)
 | 0, _, _, _, _, _, _, _, _, _, _, _, _, _, _, _, _, _, _, _ => none
 | k + 1, x1, x2, x11, x376000, x376001, x376002, x376003, x376004, x376005, x376006, x376007, x377000, x377001, x377002, x377003, x377004, x377005, x377006, x377007 => (field_Reduce.f x11 x2).bind fun t378 => (if t378 = 0 then (attestorlaw09_FoldApart.j1 k x1 1 x11 x376000 x376001 x376002 x376003 x376004 x376005 x376006 x376007 x377000 x377001 x377002 x377003 x377004 x377005 x377006 x377007) else (attestorlaw09_FoldApart.j1 k x1 x2 x11 x376000 x376001 x376002 x376003 x376004 x376005 x376006 x376007 x377000 x377001 x377002 x377003 x377004 x377005 x377006 x377007))
def attestorlaw09_FoldApart.j1 : Nat → Int → Int → Int → Int → Int → Int → Int → Int → Int → Int → Int → Int → Int → Int → Int → Int → Int → Int → Int → Option (Bool)
 | 0, _, _, _, _, _, _, _, _, _, _, _, _, _, _, _, _, _, _, _ => none
 | k + 1, x1, x2, x11, x376000, x376001, x376002, x376003, x376004, x376005, x376006, x376007, x377000, x377001, x377002, x377003, x377004, x377005, x377006, x377007 => if x11 = 1 then (attestorlaw09_FoldApart.j2 k x1 x2 x11 257 x376000 x376001 x376002 x376003 x376004 x376005 x376006 x376007 x377000 x377001 x377002 x377003 x377004 x377005 x377006 x377007) else (attestorlaw09_FoldApart.j2 k x1 x2 x11 97 x376000 x376001 x376002 x376003 x376004 x376005 x376006 x376007 x377000 x377001 x377002 x377003 x377004 x377005 x377006 x377007)
def attestorlaw09_FoldApart.j2 : Nat → Int → Int → Int → Int → Int → Int → Int → Int → Int → Int → Int → Int → Int → Int → Int → Int → Int → Int → Int → Int → Option (Bool)
 | 0, _, _, _, _, _, _, _, _, _, _, _, _, _, _, _, _, _, _, _, _ => none
 | k + 1, x1, x2, x11, x12, x376000, x376001, x376002, x376003, x376004, x376005, x376006, x376007, x377000, x377001, x377002, x377003, x377004, x377005, x377006, x377007 => (field_Reduce.f x11 x1).bind fun t379 => ((code_Local.f k x11 3 t379 [x376000, x376001, x376002, x376003, x376004, x376005, x376006, x376007] 0).bind fun t380 => ((field_Reduce.f x11 x2).bind fun t382 => ((code_Local.f k x11 3 t382 [x377000, x377001, x377002, x377003, x377004, x377005, x377006, x377007] 0).bind fun t383 => (attestorlaw09_FoldApart.l0 k x1 x2 x11 x12 0 0 x376000 x376001 x376002 x376003 x376004 x376005 x376006 x376007 x377000 x377001 x377002 x377003 x377004 x377005 x377006 x377007 (bco t380 0) (bco t380 1) (bco t380 2) (bco t380 3) (bco t380 4) (bco t380 5) (bco t380 6) (bco t380 7) (bco t383 0) (bco t383 1) (bco t383 2) (bco t383 3) (bco t383 4) (bco t383 5) (bco t383 6) (bco t383 7)))))
def attestorlaw09_FoldApart.l0 : Nat → Int → Int → Int → Int → Int → Int → Int → Int → Int → Int → Int → Int → Int → Int → Int → Int → Int → Int → Int → Int → Int → Int → Int → Int → Int → Int → Int → Int → Int → Int → Int → Int → Int → Int → Int → Int → Int → Int → Option (Bool)
 | 0, _, _, _, _, _, _, _, _, _, _, _, _, _, _, _, _, _, _, _, _, _, _, _, _, _, _, _, _, _, _, _, _, _, _, _, _, _, _ => none
 | k + 1, x1, x2, x11, x12, x15, x16, x376000, x376001, x376002, x376003, x376004, x376005, x376006, x376007, x377000, x377001, x377002, x377003, x377004, x377005, x377006, x377007, x382000, x382001, x382002, x382003, x382004, x382005, x382006, x382007, x385000, x385001, x385002, x385003, x385004, x385005, x385006, x385007 => if x16 < x12 then ((fold_At.f k x11 x1 [x376000, x376001, x376002, x376003, x376004, x376005, x376006, x376007] x16).bind fun t388 => ((fold_At.f k x11 x2 [x377000, x377001, x377002, x377003, x377004, x377005, x377006, x377007] x16).bind fun t389 => (if t388 = t389 then (attestorlaw09_FoldApart.l0 k x1 x2 x11 x12 (wrap64 (x15 + 1)) (IntKind.u64.wrap (x16 + 1)) x376000 x376001 x376002 x376003 x376004 x376005 x376006 x376007 x377000 x377001 x377002 x377003 x377004 x377005 x377006 x377007 x382000 x382001 x382002 x382003 x382004 x382005 x382006 x382007 x385000 x385001 x385002 x385003 x385004 x385005 x385006 x385007) else (attestorlaw09_FoldApart.l0 k x1 x2 x11 x12 x15 (IntKind.u64.wrap (x16 + 1)) x376000 x376001 x376002 x376003 x376004 x376005 x376006 x376007 x377000 x377001 x377002 x377003 x377004 x377005 x377006 x377007 x382000 x382001 x382002 x382003 x382004 x382005 x382006 x382007 x385000 x385001 x385002 x385003 x385004 x385005 x385006 x385007)))) else (if (x382000 == x385000 && (x382001 == x385001 && (x382002 == x385002 && (x382003 == x385003 && (x382004 == x385004 && (x382005 == x385005 && (x382006 == x385006 && (x382007 == x385007)))))))) = true then (if x15 = (wrap64 (x12)) then ((attestorlaw09_works.f k).bind fun t385 => (some t385)) else (if ((x382000 == x385000 && (x382001 == x385001 && (x382002 == x385002 && (x382003 == x385003 && (x382004 == x385004 && (x382005 == x385005 && (x382006 == x385006 && (x382007 == x385007)))))))) = true) then (none) else (if x15 ≤ 7 then ((attestorlaw09_works.f k).bind fun t386 => (some t386)) else (none)))) else (if ((x382000 == x385000 && (x382001 == x385001 && (x382002 == x385002 && (x382003 == x385003 && (x382004 == x385004 && (x382005 == x385005 && (x382006 == x385006 && (x382007 == x385007)))))))) = true) then (none) else (if x15 ≤ 7 then ((attestorlaw09_works.f k).bind fun t387 => (some t387)) else (none))))
end
def attestorlaw09_FoldApart.f (k : Nat) (a0 : Int) (a1 : Int) (a2 : Int) (a3 : List Int) (a4 : List Int) : Option (Bool) := (field_Reduce.f (wrap64 (Int.tmod a0 2)) a1).bind fun t377 => (if t377 = 0 then (attestorlaw09_FoldApart.j0 k 1 a2 (wrap64 (Int.tmod a0 2)) (bco a3 0) (bco a3 1) (bco a3 2) (bco a3 3) (bco a3 4) (bco a3 5) (bco a3 6) (bco a3 7) (bco a4 0) (bco a4 1) (bco a4 2) (bco a4 3) (bco a4 4) (bco a4 5) (bco a4 6) (bco a4 7)) else (attestorlaw09_FoldApart.j0 k a1 a2 (wrap64 (Int.tmod a0 2)) (bco a3 0) (bco a3 1) (bco a3 2) (bco a3 3) (bco a3 4) (bco a3 5) (bco a3 6) (bco a3 7) (bco a4 0) (bco a4 1) (bco a4 2) (bco a4 3) (bco a4 4) (bco a4 5) (bco a4 6) (bco a4 7)))
def attestorlaw09_FoldApart.T9 : Bool × List (List Nat × List Nat) := (true, [([], []), ([], []), ([], []), ([1, 2], [1, 2]), ([0, 3], [0, 3]), ([], []), ([4, 5, 3], [4, 5]), ([], []), ([7, 6, 6, 0, 1, 2, 3, 4, 5, 6, 7], [6, 7])])
def attestorlaw09_FoldApart.B9 : List Nat := [0, 0, 0, 6, 15, 0, 63, 0, 255]
theorem attestorlaw09_FoldApart.tab9 : rtab .any (opsOf Tryd.f5 9) = attestorlaw09_FoldApart.T9 := by kernel_rfl
theorem attestorlaw09_FoldApart.bits9 : waitsOk attestorlaw09_FoldApart.T9.2 attestorlaw09_FoldApart.B9 = true := by kernel_rfl
def attestorlaw09_FoldApart.T10 : Bool × List (List Nat × List Nat) := (true, [([], []), ([], []), ([], []), ([1, 2], [1, 2]), ([0, 3], [0, 3]), ([], []), ([4, 5, 3], [4, 5]), ([], []), ([7, 6, 6, 0, 1, 2, 3, 4, 5, 6, 7], [6, 7])])
def attestorlaw09_FoldApart.B10 : List Nat := [0, 0, 0, 6, 15, 0, 63, 0, 255]
theorem attestorlaw09_FoldApart.tab10 : rtab .any (opsOf Tryd.f5 10) = attestorlaw09_FoldApart.T10 := by kernel_rfl
theorem attestorlaw09_FoldApart.bits10 : waitsOk attestorlaw09_FoldApart.T10.2 attestorlaw09_FoldApart.B10 = true := by kernel_rfl
def attestorlaw09_FoldApart.T15 : Bool × List (List Nat × List Nat) := (true, [([], []), ([], []), ([], []), ([], []), ([0, 1, 2, 3], [0, 1, 2, 3]), ([], []), ([], []), ([], []), ([], []), ([5, 6, 7, 8, 4], [5, 6, 7, 8]), ([4, 9], [4, 9])])
def attestorlaw09_FoldApart.B15 : List Nat := [0, 0, 0, 0, 15, 0, 0, 0, 0, 511, 1023]
theorem attestorlaw09_FoldApart.tab15 : rtab .any (opsOf Tryd.f5 15) = attestorlaw09_FoldApart.T15 := by kernel_rfl
theorem attestorlaw09_FoldApart.bits15 : waitsOk attestorlaw09_FoldApart.T15.2 attestorlaw09_FoldApart.B15 = true := by kernel_rfl
set_option maxHeartbeats 8000000 in
set_option maxRecDepth 100000 in
theorem attestorlaw09_FoldApart.calls (k : Nat) (a0 : Int) (a1 : Int) (a2 : Int) (a3 : List Int) (a4 : List Int) (r : Bool) (w : World) (hG : Fld w) (h : attestorlaw09_FoldApart.f k a0 a1 a2 a3 a4 = some r) :
  Calls Tryd.prog 5 #[.int .u8 a0, .int .u64 a1, .int .u64 a2, .agg #[.int .u64 (bco a3 0), .int .u64 (bco a3 1), .int .u64 (bco a3 2), .int .u64 (bco a3 3), .int .u64 (bco a3 4), .int .u64 (bco a3 5), .int .u64 (bco a3 6), .int .u64 (bco a3 7)], .agg #[.int .u64 (bco a4 0), .int .u64 (bco a4 1), .int .u64 (bco a4 2), .int .u64 (bco a4 3), .int .u64 (bco a4 4), .int .u64 (bco a4 5), .int .u64 (bco a4 6), .int .u64 (bco a4 7)]] w fun e w' => e = .returned (.bool r) ∧ Below w.heap.size w w' := by
 have hu25 := Tryd.underlying25
 have hu24 := Tryd.underlying24
 have hsl25 := slice_arr (P := Tryd.prog) (t := 25) Tryd.underlying25 sU
 have HG := ak hG
 clear hG
 have HB := ak (Below.refl w.heap.size w)
 have H := h
 clear h
 unfold attestorlaw09_FoldApart.f at H
 revert H
 refine bd_ fun t377 A6 H => ?_
 have HC7 := ak H
 clear H
 go_enter Tryd.func5, Tryd.ntmps5
 go_upto_if 23 with (first | ((with_reducible refine gate_dst (N := 8) rfl ?_); refine bx_ 8 25 #[.int .u64 (bco a3 0), .int .u64 (bco a3 1), .int .u64 (bco a3 2), .int .u64 (bco a3 3), .int .u64 (bco a3 4), .int .u64 (bco a3 5), .int .u64 (bco a3 6), .int .u64 (bco a3 7)] ?_; intro gb375 hg w8 hbox hb; refine nx4_ (below_step (bU_ HB.out) hb) (hbox) ((hs_ hg (below_size (bU_ HB.out)))) ((hs_ hg (below_size (bU_ HB.out)))) ?_; clear HB; intro HB BK375 GW375 GE375; clear hb hbox hg) | ((with_reducible refine gate_dst (N := 9) rfl ?_); refine bx_ 9 25 #[.int .u64 (bco a4 0), .int .u64 (bco a4 1), .int .u64 (bco a4 2), .int .u64 (bco a4 3), .int .u64 (bco a4 4), .int .u64 (bco a4 5), .int .u64 (bco a4 6), .int .u64 (bco a4 7)] ?_; intro gb376 hg w9 hbox hb; refine nx7_ (blk_below (g := gb375) (o := .cells #[.int .u64 (bco a3 0), .int .u64 (bco a3 1), .int .u64 (bco a3 2), .int .u64 (bco a3 3), .int .u64 (bco a3 4), .int .u64 (bco a3 5), .int .u64 (bco a3 6), .int .u64 (bco a3 7)] 25 (0, 0)) (kU_ BK375.out) hb) (below_step sU_ hb) (hbox) ((hs_ hg (below_size sU_) : w.heap.size ≤ gb376)) ((hs_ hg (below_size sU_) : w.heap.size ≤ gb376)) ((by rw [hg]; exact Nat.ne_of_lt (blk_lt (g := gb375) (o := .cells #[.int .u64 (bco a3 0), .int .u64 (bco a3 1), .int .u64 (bco a3 2), .int .u64 (bco a3 3), .int .u64 (bco a3 4), .int .u64 (bco a3 5), .int .u64 (bco a3 6), .int .u64 (bco a3 7)] 25 (0, 0)) (kU_ BK375.out)) : gb375 ≠ gb376)) ((by rw [hg]; exact Nat.ne_of_gt (blk_lt (g := gb375) (o := .cells #[.int .u64 (bco a3 0), .int .u64 (bco a3 1), .int .u64 (bco a3 2), .int .u64 (bco a3 3), .int .u64 (bco a3 4), .int .u64 (bco a3 5), .int .u64 (bco a3 6), .int .u64 (bco a3 7)] 25 (0, 0)) (kU_ BK375.out)) : gb376 ≠ gb375)) ?_; clear BK375 HB; intro BK375 HB BK376 GW376 GE376 NB375_376 NB376_375; clear hb hbox hg) | ((with_reducible refine gate_callee (f := 22) rfl ?_); refine gl_ (some 22) Tryd.func22 #[.int .i64 (wrap64 (Int.tmod a0 2)), .int .u64 a1] ?_; (with_reducible refine (field_Reduce.calls (wrap64 (Int.tmod a0 2)) a1 t377 _ ?side1 A6.out).mono ?_); (case side1 => repeat (first | with_reducible exact HG.out | with_reducible exact (Fld.below HG.out HB.out) | exact (Fld.below HG.out sU_) | (with_reducible refine Fld.alloc ?_ _) | (with_reducible refine Fld.drewN ?_ _) | (with_reducible refine Fld.drew ?_))); rintro e w10 ⟨rfl, hb⟩; refine ⟨_, rfl, ?_⟩; refine nx3_ (blk_below (g := gb375) (o := .cells #[.int .u64 (bco a3 0), .int .u64 (bco a3 1), .int .u64 (bco a3 2), .int .u64 (bco a3 3), .int .u64 (bco a3 4), .int .u64 (bco a3 5), .int .u64 (bco a3 6), .int .u64 (bco a3 7)] 25 (0, 0)) (kU_ BK375.out) hb) (blk_below (g := gb376) (o := .cells #[.int .u64 (bco a4 0), .int .u64 (bco a4 1), .int .u64 (bco a4 2), .int .u64 (bco a4 3), .int .u64 (bco a4 4), .int .u64 (bco a4 5), .int .u64 (bco a4 6), .int .u64 (bco a4 7)] 25 (0, 0)) (kU_ BK376.out) hb) (below_step sU_ hb) ?_; clear BK375 BK376 HB; intro BK375 BK376 HB; clear hb))
 (try simp only [Act.put, s1_, s2_, s3_])
 go_cut [1] (fun v1 wc => ∃ (kq : Nat) (x1_6 : Int), v1 = .int .u64 x1_6 ∧ Aside0 (attestorlaw09_FoldApart.j0 kq x1_6 a2 (wrap64 (Int.tmod a0 2)) (bco a3 0) (bco a3 1) (bco a3 2) (bco a3 3) (bco a3 4) (bco a3 5) (bco a3 6) (bco a3 7) (bco a4 0) (bco a4 1) (bco a4 2) (bco a4 3) (bco a4 4) (bco a4 5) (bco a4 6) (bco a4 7) = some r) ∧ Aside0 (kq ≤ k) ∧ Aside0 (wc.heap[gb375]? = some (.cells #[.int .u64 (bco a3 0), .int .u64 (bco a3 1), .int .u64 (bco a3 2), .int .u64 (bco a3 3), .int .u64 (bco a3 4), .int .u64 (bco a3 5), .int .u64 (bco a3 6), .int .u64 (bco a3 7)] 25 (0, 0))) ∧ Aside0 (wc.heap[gb376]? = some (.cells #[.int .u64 (bco a4 0), .int .u64 (bco a4 1), .int .u64 (bco a4 2), .int .u64 (bco a4 3), .int .u64 (bco a4 4), .int .u64 (bco a4 5), .int .u64 (bco a4 6), .int .u64 (bco a4 7)] 25 (0, 0))) ∧ Aside0 (Below w.heap.size w wc))
 case first =>
  have H := HC7.out
  clear HC7
  by_cases c11 : t377 = 0
  ·rw [if_pos c11] at H
   have c11b0 := beq_iff_eq.mpr c11
   have c11b1 := bne_eq_false_iff_eq.mpr c11
   clear c11
   (first | rw [c11b0] | (simp only [i64_w, i32_w]; rw [c11b0]) | rw [c11b1] | skip)
   have H' := ak H
   clear H
   go_wp2
   go_meet
   case rel => exact ⟨_, (1), gb_, H', ⟨by first | omega | exact Nat.le_refl _⟩, ⟨by (with_reducible repeat (first | refine blk_drewN ?_ _ | refine blk_drew ?_ | refine blk_alloc ?_ _)); exact BK375.out⟩, ⟨by (with_reducible repeat (first | refine blk_drewN ?_ _ | refine blk_drew ?_ | refine blk_alloc ?_ _)); exact BK376.out⟩, ⟨sU_⟩⟩
  rw [if_neg c11] at H
  have c11b0 := beq_eq_false_iff_ne.mpr c11
  have c11b1 := bne_iff_ne.mpr c11
  (first | rw [c11b0] | (simp only [i64_w, i32_w]; rw [c11b0]) | rw [c11b1] | skip)
  have H' := ak H
  clear H
  go_wp2
  go_meet
  case rel => exact ⟨_, (a1), gb_, H', ⟨by first | omega | exact Nat.le_refl _⟩, ⟨by (with_reducible repeat (first | refine blk_drewN ?_ _ | refine blk_drew ?_ | refine blk_alloc ?_ _)); exact BK375.out⟩, ⟨by (with_reducible repeat (first | refine blk_drewN ?_ _ | refine blk_drew ?_ | refine blk_alloc ?_ _)); exact BK376.out⟩, ⟨sU_⟩⟩
 case rest =>
  clear HC7
  (try clear c1); (try clear c2); (try clear p2); (try clear c5); (try clear p6); (try clear c11); (try clear c11b0); (try clear c11b1)
  obtain ⟨kq, x1_6, rfl, HA, HJ6, BK375, BK376, HB⟩ := hcut
  cases kq with
  | zero => exact absurd HA.out (by simp [attestorlaw09_FoldApart.j0])
  | succ kj6 =>
   have H := HA.out
   clear HA
   simp only [attestorlaw09_FoldApart.j0] at H
   revert H
   refine bd_ fun t378 A12 H => ?_
   have HC13 := ak H
   clear H
   go_upto_if 27 with (first | ((with_reducible refine gate_callee (f := 22) rfl ?_); refine gl_ (some 26) Tryd.func22 #[.int .i64 (wrap64 (Int.tmod a0 2)), .int .u64 a2] ?_; (with_reducible refine (field_Reduce.calls (wrap64 (Int.tmod a0 2)) a2 t378 _ ?side1 A12.out).mono ?_); (case side1 => repeat (first | with_reducible exact HG.out | with_reducible exact (Fld.below HG.out HB.out) | exact (Fld.below HG.out sU_) | (with_reducible refine Fld.alloc ?_ _) | (with_reducible refine Fld.drewN ?_ _) | (with_reducible refine Fld.drew ?_))); rintro e w14 ⟨rfl, hb⟩; refine ⟨_, rfl, ?_⟩; refine nx3_ (blk_below (g := gb375) (o := .cells #[.int .u64 (bco a3 0), .int .u64 (bco a3 1), .int .u64 (bco a3 2), .int .u64 (bco a3 3), .int .u64 (bco a3 4), .int .u64 (bco a3 5), .int .u64 (bco a3 6), .int .u64 (bco a3 7)] 25 (0, 0)) (kU_ BK375.out) hb) (blk_below (g := gb376) (o := .cells #[.int .u64 (bco a4 0), .int .u64 (bco a4 1), .int .u64 (bco a4 2), .int .u64 (bco a4 3), .int .u64 (bco a4 4), .int .u64 (bco a4 5), .int .u64 (bco a4 6), .int .u64 (bco a4 7)] 25 (0, 0)) (kU_ BK376.out) hb) (below_step sU_ hb) ?_; clear BK375 BK376 HB; intro BK375 BK376 HB; clear hb))
   (try simp only [Act.put, s1_, s2_, s3_])
   go_cut [2] (fun v2 wc => ∃ (kq : Nat) (x2_12 : Int), v2 = .int .u64 x2_12 ∧ Aside0 (attestorlaw09_FoldApart.j1 kq x1_6 x2_12 (wrap64 (Int.tmod a0 2)) (bco a3 0) (bco a3 1) (bco a3 2) (bco a3 3) (bco a3 4) (bco a3 5) (bco a3 6) (bco a3 7) (bco a4 0) (bco a4 1) (bco a4 2) (bco a4 3) (bco a4 4) (bco a4 5) (bco a4 6) (bco a4 7) = some r) ∧ Aside0 (kq ≤ kj6) ∧ Aside0 (wc.heap[gb375]? = some (.cells #[.int .u64 (bco a3 0), .int .u64 (bco a3 1), .int .u64 (bco a3 2), .int .u64 (bco a3 3), .int .u64 (bco a3 4), .int .u64 (bco a3 5), .int .u64 (bco a3 6), .int .u64 (bco a3 7)] 25 (0, 0))) ∧ Aside0 (wc.heap[gb376]? = some (.cells #[.int .u64 (bco a4 0), .int .u64 (bco a4 1), .int .u64 (bco a4 2), .int .u64 (bco a4 3), .int .u64 (bco a4 4), .int .u64 (bco a4 5), .int .u64 (bco a4 6), .int .u64 (bco a4 7)] 25 (0, 0))) ∧ Aside0 (Below w.heap.size w wc))
   case first =>
    have H := HC13.out
    clear HC13
    by_cases c15 : t378 = 0
    ·rw [if_pos c15] at H
     have c15b0 := beq_iff_eq.mpr c15
     have c15b1 := bne_eq_false_iff_eq.mpr c15
     clear c15
     (first | rw [c15b0] | (simp only [i64_w, i32_w]; rw [c15b0]) | rw [c15b1] | skip)
     have H' := ak H
     clear H
     go_wp2
     go_meet
     case rel => exact ⟨_, (1), gb_, H', ⟨by have := HJ6.out; first | omega | exact Nat.le_refl _⟩, ⟨by (with_reducible repeat (first | refine blk_drewN ?_ _ | refine blk_drew ?_ | refine blk_alloc ?_ _)); exact BK375.out⟩, ⟨by (with_reducible repeat (first | refine blk_drewN ?_ _ | refine blk_drew ?_ | refine blk_alloc ?_ _)); exact BK376.out⟩, ⟨sU_⟩⟩
    rw [if_neg c15] at H
    have c15b0 := beq_eq_false_iff_ne.mpr c15
    have c15b1 := bne_iff_ne.mpr c15
    (first | rw [c15b0] | (simp only [i64_w, i32_w]; rw [c15b0]) | rw [c15b1] | skip)
    have H' := ak H
    clear H
    go_wp2
    go_meet
    case rel => exact ⟨_, (a2), gb_, H', ⟨by have := HJ6.out; first | omega | exact Nat.le_refl _⟩, ⟨by (with_reducible repeat (first | refine blk_drewN ?_ _ | refine blk_drew ?_ | refine blk_alloc ?_ _)); exact BK375.out⟩, ⟨by (with_reducible repeat (first | refine blk_drewN ?_ _ | refine blk_drew ?_ | refine blk_alloc ?_ _)); exact BK376.out⟩, ⟨sU_⟩⟩
   case rest =>
    clear HC13
    (try clear c1); (try clear c2); (try clear p2); (try clear c5); (try clear p6); (try clear c11); (try clear c11b0); (try clear c11b1); (try clear c15); (try clear c15b0); (try clear c15b1)
    obtain ⟨kq, x2_12, rfl, HA, HJ12, BK375, BK376, HB⟩ := hcut
    cases kq with
    | zero => exact absurd HA.out (by simp [attestorlaw09_FoldApart.j1])
    | succ kj12 =>
     have H := HA.out
     clear HA
     simp only [attestorlaw09_FoldApart.j1] at H
     have HC16 := ak H
     clear H
     go_upto_if 29 with (fail)
     go_cut [12] (fun v12 wc => ∃ (kq : Nat) (x12_15 : Int), v12 = .int .u64 x12_15 ∧ Aside0 (attestorlaw09_FoldApart.j2 kq x1_6 x2_12 (wrap64 (Int.tmod a0 2)) x12_15 (bco a3 0) (bco a3 1) (bco a3 2) (bco a3 3) (bco a3 4) (bco a3 5) (bco a3 6) (bco a3 7) (bco a4 0) (bco a4 1) (bco a4 2) (bco a4 3) (bco a4 4) (bco a4 5) (bco a4 6) (bco a4 7) = some r) ∧ Aside0 (kq ≤ kj12) ∧ Aside0 (wc.heap[gb375]? = some (.cells #[.int .u64 (bco a3 0), .int .u64 (bco a3 1), .int .u64 (bco a3 2), .int .u64 (bco a3 3), .int .u64 (bco a3 4), .int .u64 (bco a3 5), .int .u64 (bco a3 6), .int .u64 (bco a3 7)] 25 (0, 0))) ∧ Aside0 (wc.heap[gb376]? = some (.cells #[.int .u64 (bco a4 0), .int .u64 (bco a4 1), .int .u64 (bco a4 2), .int .u64 (bco a4 3), .int .u64 (bco a4 4), .int .u64 (bco a4 5), .int .u64 (bco a4 6), .int .u64 (bco a4 7)] 25 (0, 0))) ∧ Aside0 (Below w.heap.size w wc))
     case first =>
      have H := HC16.out
      clear HC16
      by_cases c17 : (wrap64 (Int.tmod a0 2)) = 1
      ·rw [if_pos c17] at H
       have c17b0 := beq_iff_eq.mpr c17
       have c17b1 := bne_eq_false_iff_eq.mpr c17
       clear c17
       (first | rw [c17b0] | (simp only [i64_w, i32_w]; rw [c17b0]) | rw [c17b1] | skip)
       have H' := ak H
       clear H
       go_wp2
       go_meet
       case rel => exact ⟨_, (257), gb_, H', ⟨by have := HJ6.out; have := HJ12.out; first | omega | exact Nat.le_refl _⟩, ⟨by (with_reducible repeat (first | refine blk_drewN ?_ _ | refine blk_drew ?_ | refine blk_alloc ?_ _)); exact BK375.out⟩, ⟨by (with_reducible repeat (first | refine blk_drewN ?_ _ | refine blk_drew ?_ | refine blk_alloc ?_ _)); exact BK376.out⟩, ⟨sU_⟩⟩
      rw [if_neg c17] at H
      have c17b0 := beq_eq_false_iff_ne.mpr c17
      have c17b1 := bne_iff_ne.mpr c17
      (first | rw [c17b0] | (simp only [i64_w, i32_w]; rw [c17b0]) | rw [c17b1] | skip)
      have H' := ak H
      clear H
      go_wp2
      go_meet
      case rel => exact ⟨_, (97), gb_, H', ⟨by have := HJ6.out; have := HJ12.out; first | omega | exact Nat.le_refl _⟩, ⟨by (with_reducible repeat (first | refine blk_drewN ?_ _ | refine blk_drew ?_ | refine blk_alloc ?_ _)); exact BK375.out⟩, ⟨by (with_reducible repeat (first | refine blk_drewN ?_ _ | refine blk_drew ?_ | refine blk_alloc ?_ _)); exact BK376.out⟩, ⟨sU_⟩⟩
     case rest =>
      clear HC16
      (try clear c1); (try clear c2); (try clear p2); (try clear c5); (try clear p6); (try clear c11); (try clear c11b0); (try clear c11b1); (try clear c15); (try clear c15b0); (try clear c15b1); (try clear c17); (try clear c17b0); (try clear c17b1)
      obtain ⟨kq, x12_15, rfl, HA, HJ15, BK375, BK376, HB⟩ := hcut
      cases kq with
      | zero => exact absurd HA.out (by simp [attestorlaw09_FoldApart.j2])
      | succ kj15 =>
       have H := HA.out
       clear HA
       simp only [attestorlaw09_FoldApart.j2] at H
       revert H
       refine bd_ fun t379 A18 H => ?_
       revert H
       refine bd_ fun t380 A19 H => ?_
       revert H
       refine bd_ fun t382 A20 H => ?_
       revert H
       refine bd_ fun t383 A21 H => ?_
       have H' := ak H
       clear H
       try go_wp2
       refine nx3_ (blk_drew BK375.out) (blk_drew BK376.out) (below_drew1 HB.out) ?_
       clear BK375 BK376 HB
       intro BK375 BK376 HB
       refine start_ (n := 9) (S := fun w' => w'.cell? ⟨gb375, 0, none⟩ = some (.int .u64 (bco a3 0)) ∧ w'.cell? ⟨gb375, 1, none⟩ = some (.int .u64 (bco a3 1)) ∧ w'.cell? ⟨gb375, 2, none⟩ = some (.int .u64 (bco a3 2)) ∧ w'.cell? ⟨gb375, 3, none⟩ = some (.int .u64 (bco a3 3)) ∧ w'.cell? ⟨gb375, 4, none⟩ = some (.int .u64 (bco a3 4)) ∧ w'.cell? ⟨gb375, 5, none⟩ = some (.int .u64 (bco a3 5)) ∧ w'.cell? ⟨gb375, 6, none⟩ = some (.int .u64 (bco a3 6)) ∧ w'.cell? ⟨gb375, 7, none⟩ = some (.int .u64 (bco a3 7))) (ds := []) (bv 9 0) (by kernel_rfl) rfl rfl ⟨bc0_ BK375.out, bc1_ BK375.out, bc2_ BK375.out, (blk_cell BK375.out 3).trans rfl, (blk_cell BK375.out 4).trans rfl, (blk_cell BK375.out 5).trans rfl, (blk_cell BK375.out 6).trans rfl, (blk_cell BK375.out 7).trans rfl⟩ (fun hHeld => ?_); refine with_tabW attestorlaw09_FoldApart.tab9 attestorlaw09_FoldApart.bits9 (fun HT_ HW_ => ?_)
       generalize wc.drew = w22 at BK375 BK376 HB hHeld ⊢
       refine pq_ 0 30 9 1 HT_.out ?_
       refine pq_ 1 31 9 3 HT_.out ?_
       refine pq_ 2 32 9 7 HT_.out ?_
       refine pq_ 5 35 9 39 HT_.out ?_
       refine join_ (σ := Nat) 1 #[true, true, true, true, true, true, true, true, false] (fun s_ => [(33, .int .u64 t379), (36, .agg #[.int .u64 (bco t380 0), .int .u64 (bco t380 1), .int .u64 (bco t380 2), .int .u64 (bco t380 3), .int .u64 (bco t380 4), .int .u64 (bco t380 5), .int .u64 (bco t380 6), .int .u64 (bco t380 7)]), (13, .pointer (some ⟨s_, 0, none⟩)), (34, .agg #[.int .i64 (wrap64 (Int.tmod a0 2)), .int .i64 3, .int .u64 t379])]) (fun s_ w' => (w'.cell? ⟨gb375, 0, none⟩ = some (.int .u64 (bco a3 0)) ∧ w'.cell? ⟨gb375, 1, none⟩ = some (.int .u64 (bco a3 1)) ∧ w'.cell? ⟨gb375, 2, none⟩ = some (.int .u64 (bco a3 2)) ∧ w'.cell? ⟨gb375, 3, none⟩ = some (.int .u64 (bco a3 3)) ∧ w'.cell? ⟨gb375, 4, none⟩ = some (.int .u64 (bco a3 4)) ∧ w'.cell? ⟨gb375, 5, none⟩ = some (.int .u64 (bco a3 5)) ∧ w'.cell? ⟨gb375, 6, none⟩ = some (.int .u64 (bco a3 6)) ∧ w'.cell? ⟨gb375, 7, none⟩ = some (.int .u64 (bco a3 7))) ∧ (w'.heap[gb375]? = some (.cells #[.int .u64 (bco a3 0), .int .u64 (bco a3 1), .int .u64 (bco a3 2), .int .u64 (bco a3 3), .int .u64 (bco a3 4), .int .u64 (bco a3 5), .int .u64 (bco a3 6), .int .u64 (bco a3 7)] 25 (0, 0))) ∧ (w'.heap[gb376]? = some (.cells #[.int .u64 (bco a4 0), .int .u64 (bco a4 1), .int .u64 (bco a4 2), .int .u64 (bco a4 3), .int .u64 (bco a4 4), .int .u64 (bco a4 5), .int .u64 (bco a4 6), .int .u64 (bco a4 7)] 25 (0, 0))) ∧ (w'.heap[s_]? = some (.cells #[.int .u64 0, .int .u64 0, .int .u64 0, .int .u64 0, .int .u64 0, .int .u64 0, .int .u64 0, .int .u64 0] 25 (0, 0))) ∧ (w.heap.size ≤ s_) ∧ (w.heap.size ≤ s_) ∧ (gb375 ≠ s_) ∧ (s_ ≠ gb375) ∧ (gb376 ≠ s_) ∧ (s_ ≠ gb376) ∧ (Below w.heap.size w w')) ?_ ?_
       rotate_left
       ·intro hCont
        refine two_ (i := 3) (j := 7) (Ni := some 33) (Nj := some 13) (bv 9 47) (bv 9 167) rfl rfl rfl rfl (two_of HT_.out (by kernel_rfl)) (by decide) (by decide) (fun K hK => ?_) (fun K hK => ?_)
        ·skip
         refine gs_ Tryd.func22 #[.int .i64 (wrap64 (Int.tmod a0 2)), .int .u64 x1_6] ?_
         with_reducible refine (field_Reduce.calls (wrap64 (Int.tmod a0 2)) x1_6 t379 _ ?side1 A18.out).mono ?_
         (case side1 => repeat (first | with_reducible exact HG.out | with_reducible exact (Fld.below HG.out HB.out) | exact (Fld.below HG.out sU_) | (with_reducible refine Fld.alloc ?_ _) | (with_reducible refine Fld.drewN ?_ _) | (with_reducible refine Fld.drew ?_)))
         rintro e w23 ⟨rfl, hb⟩
         refine ⟨_, rfl, ?_⟩
         refine nx3_ (blk_below (g := gb375) (o := .cells #[.int .u64 (bco a3 0), .int .u64 (bco a3 1), .int .u64 (bco a3 2), .int .u64 (bco a3 3), .int .u64 (bco a3 4), .int .u64 (bco a3 5), .int .u64 (bco a3 6), .int .u64 (bco a3 7)] 25 (0, 0)) (kU_ BK375.out) hb) (blk_below (g := gb376) (o := .cells #[.int .u64 (bco a4 0), .int .u64 (bco a4 1), .int .u64 (bco a4 2), .int .u64 (bco a4 3), .int .u64 (bco a4 4), .int .u64 (bco a4 5), .int .u64 (bco a4 6), .int .u64 (bco a4 7)] 25 (0, 0)) (kU_ BK376.out) hb) (below_step sU_ hb) ?_
         clear BK375 BK376 HB
         intro BK375 BK376 HB
         (try clear hb)
         (try clear hb2)
         (try clear hk)
         (try clear hi)
         refine hK.out _ _ ⟨bc0_ BK375.out, bc1_ BK375.out, bc2_ BK375.out, (blk_cell BK375.out 3).trans rfl, (blk_cell BK375.out 4).trans rfl, (blk_cell BK375.out 5).trans rfl, (blk_cell BK375.out 6).trans rfl, (blk_cell BK375.out 7).trans rfl⟩ (fun hHeld => ?_)
         clear hK K
         refine norm_ (a' := ?_) ?_ ?_
         rotate_left
         ·show Act.put _ (some 33) _ = _
          simp only [Act.put, s1_, s2_, s3_, i64_w, i32_w]
          rfl
         refine pq_ 4 34 9 63 HT_.out ?_
         refine two_ (i := 6) (j := 7) (Ni := some 36) (Nj := some 13) (bv 9 127) (bv 9 191) rfl rfl rfl rfl (two_of HT_.out (by kernel_rfl)) (by decide) (by decide) (fun K hK => ?_) (fun K hK => ?_)
         ·skip
          refine gs_ Tryd.func23 #[.agg #[.int .i64 (wrap64 (Int.tmod a0 2)), .int .i64 3, .int .u64 t379], .slice (some ⟨gb375, 0, none⟩) [(bco a3 0), (bco a3 1), (bco a3 2), (bco a3 3), (bco a3 4), (bco a3 5), (bco a3 6), (bco a3 7)].length 8, .int .i64 0] ?_
          with_reducible refine (code_Local.calls kj15 (wrap64 (Int.tmod a0 2)) 3 t379 _ _ [(bco a3 0), (bco a3 1), (bco a3 2), (bco a3 3), (bco a3 4), (bco a3 5), (bco a3 6), (bco a3 7)] 0 t380 _ ?side1 ?side2 ?side3 A19.out).mono ?_
          (case side1 => repeat (first | with_reducible exact HG.out | with_reducible exact (Fld.below HG.out HB.out) | exact (Fld.below HG.out sU_) | (with_reducible refine Fld.alloc ?_ _) | (with_reducible refine Fld.drewN ?_ _) | (with_reducible refine Fld.drew ?_)))
          (case side2 => exact (Arr.C (l := [(bco a3 0), (bco a3 1), (bco a3 2), (bco a3 3), (bco a3 4), (bco a3 5), (bco a3 6), (bco a3 7)]) (t := 25) (show Arr _ _ _ _ from (kU_ BK375.out)) (show 8 ≤ 9223372036854775807 by decide)))
          (case side3 => exact Nat.le_refl 8)
          rintro e w24 ⟨rfl, hb⟩
          refine ⟨_, rfl, ?_⟩
          refine nx3_ (blk_below (g := gb375) (o := .cells #[.int .u64 (bco a3 0), .int .u64 (bco a3 1), .int .u64 (bco a3 2), .int .u64 (bco a3 3), .int .u64 (bco a3 4), .int .u64 (bco a3 5), .int .u64 (bco a3 6), .int .u64 (bco a3 7)] 25 (0, 0)) (kU_ BK375.out) hb) (blk_below (g := gb376) (o := .cells #[.int .u64 (bco a4 0), .int .u64 (bco a4 1), .int .u64 (bco a4 2), .int .u64 (bco a4 3), .int .u64 (bco a4 4), .int .u64 (bco a4 5), .int .u64 (bco a4 6), .int .u64 (bco a4 7)] 25 (0, 0)) (kU_ BK376.out) hb) (below_step sU_ hb) ?_
          clear BK375 BK376 HB
          intro BK375 BK376 HB
          (try clear hb)
          (try clear hb2)
          (try clear hk)
          (try clear hi)
          refine hK.out _ _ ⟨bc0_ BK375.out, bc1_ BK375.out, bc2_ BK375.out, (blk_cell BK375.out 3).trans rfl, (blk_cell BK375.out 4).trans rfl, (blk_cell BK375.out 5).trans rfl, (blk_cell BK375.out 6).trans rfl, (blk_cell BK375.out 7).trans rfl⟩ (fun hHeld => ?_)
          clear hK K
          refine norm_ (a' := ?_) ?_ ?_
          rotate_left
          ·show Act.put _ (some 36) _ = _
           simp only [Act.put, s1_, s2_, s3_, i64_w, i32_w]
           rfl
          refine oq_ 7 13 9 255 HT_.out fun K hK => ?_
          refine box_step ?hg (N := 13) ?hd (cs := #[.int .u64 0, .int .u64 0, .int .u64 0, .int .u64 0, .int .u64 0, .int .u64 0, .int .u64 0, .int .u64 0]) (t := 25) ?hr ?_; (case hd => rfl); (case hg => rfl); (case hr => first | (go_simp; done) | (go_simp; rfl))
          intro gb381 hg w25 hbox hb
          refine nx10_ (blk_below (g := gb375) (o := .cells #[.int .u64 (bco a3 0), .int .u64 (bco a3 1), .int .u64 (bco a3 2), .int .u64 (bco a3 3), .int .u64 (bco a3 4), .int .u64 (bco a3 5), .int .u64 (bco a3 6), .int .u64 (bco a3 7)] 25 (0, 0)) (kU_ BK375.out) hb) (blk_below (g := gb376) (o := .cells #[.int .u64 (bco a4 0), .int .u64 (bco a4 1), .int .u64 (bco a4 2), .int .u64 (bco a4 3), .int .u64 (bco a4 4), .int .u64 (bco a4 5), .int .u64 (bco a4 6), .int .u64 (bco a4 7)] 25 (0, 0)) (kU_ BK376.out) hb) (below_step sU_ hb) (hbox) ((hs_ hg (below_size sU_) : w.heap.size ≤ gb381)) ((hs_ hg (below_size sU_) : w.heap.size ≤ gb381)) ((by rw [hg]; exact Nat.ne_of_lt (blk_lt (g := gb375) (o := .cells #[.int .u64 (bco a3 0), .int .u64 (bco a3 1), .int .u64 (bco a3 2), .int .u64 (bco a3 3), .int .u64 (bco a3 4), .int .u64 (bco a3 5), .int .u64 (bco a3 6), .int .u64 (bco a3 7)] 25 (0, 0)) (kU_ BK375.out)) : gb375 ≠ gb381)) ((by rw [hg]; exact Nat.ne_of_gt (blk_lt (g := gb375) (o := .cells #[.int .u64 (bco a3 0), .int .u64 (bco a3 1), .int .u64 (bco a3 2), .int .u64 (bco a3 3), .int .u64 (bco a3 4), .int .u64 (bco a3 5), .int .u64 (bco a3 6), .int .u64 (bco a3 7)] 25 (0, 0)) (kU_ BK375.out)) : gb381 ≠ gb375)) ((by rw [hg]; exact Nat.ne_of_lt (blk_lt (g := gb376) (o := .cells #[.int .u64 (bco a4 0), .int .u64 (bco a4 1), .int .u64 (bco a4 2), .int .u64 (bco a4 3), .int .u64 (bco a4 4), .int .u64 (bco a4 5), .int .u64 (bco a4 6), .int .u64 (bco a4 7)] 25 (0, 0)) (kU_ BK376.out)) : gb376 ≠ gb381)) ((by rw [hg]; exact Nat.ne_of_gt (blk_lt (g := gb376) (o := .cells #[.int .u64 (bco a4 0), .int .u64 (bco a4 1), .int .u64 (bco a4 2), .int .u64 (bco a4 3), .int .u64 (bco a4 4), .int .u64 (bco a4 5), .int .u64 (bco a4 6), .int .u64 (bco a4 7)] 25 (0, 0)) (kU_ BK376.out)) : gb381 ≠ gb376)) ?_
          clear BK375 BK376 HB
          intro BK375 BK376 HB BK381 GW381 GE381 NB375_381 NB381_375 NB376_381 NB381_376
          clear hb hbox hg
          refine hK.out _ _ ⟨bc0_ BK375.out, bc1_ BK375.out, bc2_ BK375.out, (blk_cell BK375.out 3).trans rfl, (blk_cell BK375.out 4).trans rfl, (blk_cell BK375.out 5).trans rfl, (blk_cell BK375.out 6).trans rfl, (blk_cell BK375.out 7).trans rfl⟩ (fun hHeld => ?_)
          clear hK K
          refine norm_ (a' := ?_) ?_ ?_
          rotate_left
          ·show Act.put _ (some 13) _ = _
           simp only [Act.put, s1_, s2_, s3_, i64_w, i32_w]
           rfl
          exact norm_ (by simp only [putAll, Act.put, List.setIfInBounds_toArray, List.set_cons_zero, List.set_cons_succ]) (hCont (gb381) _ ⟨hHeld, (kU_ BK375.out), (kU_ BK376.out), (kU_ BK381.out), GW381.out, GE381.out, NB375_381.out, NB381_375.out, NB376_381.out, NB381_376.out, sU_⟩)
         skip
         refine box_step ?hg (N := 13) ?hd (cs := #[.int .u64 0, .int .u64 0, .int .u64 0, .int .u64 0, .int .u64 0, .int .u64 0, .int .u64 0, .int .u64 0]) (t := 25) ?hr ?_; (case hd => rfl); (case hg => rfl); (case hr => first | (go_simp; done) | (go_simp; rfl))
         intro gb381 hg w24 hbox hb
         refine nx10_ (blk_below (g := gb375) (o := .cells #[.int .u64 (bco a3 0), .int .u64 (bco a3 1), .int .u64 (bco a3 2), .int .u64 (bco a3 3), .int .u64 (bco a3 4), .int .u64 (bco a3 5), .int .u64 (bco a3 6), .int .u64 (bco a3 7)] 25 (0, 0)) (kU_ BK375.out) hb) (blk_below (g := gb376) (o := .cells #[.int .u64 (bco a4 0), .int .u64 (bco a4 1), .int .u64 (bco a4 2), .int .u64 (bco a4 3), .int .u64 (bco a4 4), .int .u64 (bco a4 5), .int .u64 (bco a4 6), .int .u64 (bco a4 7)] 25 (0, 0)) (kU_ BK376.out) hb) (below_step sU_ hb) (hbox) ((hs_ hg (below_size sU_) : w.heap.size ≤ gb381)) ((hs_ hg (below_size sU_) : w.heap.size ≤ gb381)) ((by rw [hg]; exact Nat.ne_of_lt (blk_lt (g := gb375) (o := .cells #[.int .u64 (bco a3 0), .int .u64 (bco a3 1), .int .u64 (bco a3 2), .int .u64 (bco a3 3), .int .u64 (bco a3 4), .int .u64 (bco a3 5), .int .u64 (bco a3 6), .int .u64 (bco a3 7)] 25 (0, 0)) (kU_ BK375.out)) : gb375 ≠ gb381)) ((by rw [hg]; exact Nat.ne_of_gt (blk_lt (g := gb375) (o := .cells #[.int .u64 (bco a3 0), .int .u64 (bco a3 1), .int .u64 (bco a3 2), .int .u64 (bco a3 3), .int .u64 (bco a3 4), .int .u64 (bco a3 5), .int .u64 (bco a3 6), .int .u64 (bco a3 7)] 25 (0, 0)) (kU_ BK375.out)) : gb381 ≠ gb375)) ((by rw [hg]; exact Nat.ne_of_lt (blk_lt (g := gb376) (o := .cells #[.int .u64 (bco a4 0), .int .u64 (bco a4 1), .int .u64 (bco a4 2), .int .u64 (bco a4 3), .int .u64 (bco a4 4), .int .u64 (bco a4 5), .int .u64 (bco a4 6), .int .u64 (bco a4 7)] 25 (0, 0)) (kU_ BK376.out)) : gb376 ≠ gb381)) ((by rw [hg]; exact Nat.ne_of_gt (blk_lt (g := gb376) (o := .cells #[.int .u64 (bco a4 0), .int .u64 (bco a4 1), .int .u64 (bco a4 2), .int .u64 (bco a4 3), .int .u64 (bco a4 4), .int .u64 (bco a4 5), .int .u64 (bco a4 6), .int .u64 (bco a4 7)] 25 (0, 0)) (kU_ BK376.out)) : gb381 ≠ gb376)) ?_
         clear BK375 BK376 HB
         intro BK375 BK376 HB BK381 GW381 GE381 NB375_381 NB381_375 NB376_381 NB381_376
         clear hb hbox hg
         refine hK.out _ _ ⟨bc0_ BK375.out, bc1_ BK375.out, bc2_ BK375.out, (blk_cell BK375.out 3).trans rfl, (blk_cell BK375.out 4).trans rfl, (blk_cell BK375.out 5).trans rfl, (blk_cell BK375.out 6).trans rfl, (blk_cell BK375.out 7).trans rfl⟩ (fun hHeld => ?_)
         clear hK K
         refine norm_ (a' := ?_) ?_ ?_
         rotate_left
         ·show Act.put _ (some 13) _ = _
          simp only [Act.put, s1_, s2_, s3_, i64_w, i32_w]
          rfl
         refine oq_ 6 36 9 255 HT_.out fun K hK => ?_
         refine gs_ Tryd.func23 #[.agg #[.int .i64 (wrap64 (Int.tmod a0 2)), .int .i64 3, .int .u64 t379], .slice (some ⟨gb375, 0, none⟩) [(bco a3 0), (bco a3 1), (bco a3 2), (bco a3 3), (bco a3 4), (bco a3 5), (bco a3 6), (bco a3 7)].length 8, .int .i64 0] ?_
         with_reducible refine (code_Local.calls kj15 (wrap64 (Int.tmod a0 2)) 3 t379 _ _ [(bco a3 0), (bco a3 1), (bco a3 2), (bco a3 3), (bco a3 4), (bco a3 5), (bco a3 6), (bco a3 7)] 0 t380 _ ?side1 ?side2 ?side3 A19.out).mono ?_
         (case side1 => repeat (first | with_reducible exact HG.out | with_reducible exact (Fld.below HG.out HB.out) | exact (Fld.below HG.out sU_) | (with_reducible refine Fld.alloc ?_ _) | (with_reducible refine Fld.drewN ?_ _) | (with_reducible refine Fld.drew ?_)))
         (case side2 => exact (Arr.C (l := [(bco a3 0), (bco a3 1), (bco a3 2), (bco a3 3), (bco a3 4), (bco a3 5), (bco a3 6), (bco a3 7)]) (t := 25) (show Arr _ _ _ _ from (kU_ BK375.out)) (show 8 ≤ 9223372036854775807 by decide)))
         (case side3 => exact Nat.le_refl 8)
         rintro e w25 ⟨rfl, hb⟩
         refine ⟨_, rfl, ?_⟩
         refine nx4_ (blk_below (g := gb375) (o := .cells #[.int .u64 (bco a3 0), .int .u64 (bco a3 1), .int .u64 (bco a3 2), .int .u64 (bco a3 3), .int .u64 (bco a3 4), .int .u64 (bco a3 5), .int .u64 (bco a3 6), .int .u64 (bco a3 7)] 25 (0, 0)) (kU_ BK375.out) hb) (blk_below (g := gb376) (o := .cells #[.int .u64 (bco a4 0), .int .u64 (bco a4 1), .int .u64 (bco a4 2), .int .u64 (bco a4 3), .int .u64 (bco a4 4), .int .u64 (bco a4 5), .int .u64 (bco a4 6), .int .u64 (bco a4 7)] 25 (0, 0)) (kU_ BK376.out) hb) (blk_below (kU_ BK381.out) hb) (below_step sU_ hb) ?_
         clear BK375 BK376 BK381 HB
         intro BK375 BK376 BK381 HB
         (try clear hb)
         (try clear hb2)
         (try clear hk)
         (try clear hi)
         refine hK.out _ _ ⟨bc0_ BK375.out, bc1_ BK375.out, bc2_ BK375.out, (blk_cell BK375.out 3).trans rfl, (blk_cell BK375.out 4).trans rfl, (blk_cell BK375.out 5).trans rfl, (blk_cell BK375.out 6).trans rfl, (blk_cell BK375.out 7).trans rfl⟩ (fun hHeld => ?_)
         clear hK K
         refine norm_ (a' := ?_) ?_ ?_
         rotate_left
         ·show Act.put _ (some 36) _ = _
          simp only [Act.put, s1_, s2_, s3_, i64_w, i32_w]
          rfl
         exact norm_ (by simp only [putAll, Act.put, List.setIfInBounds_toArray, List.set_cons_zero, List.set_cons_succ]) (hCont (gb381) _ ⟨hHeld, (kU_ BK375.out), (kU_ BK376.out), (kU_ BK381.out), GW381.out, GE381.out, NB375_381.out, NB381_375.out, NB376_381.out, NB381_376.out, sU_⟩)
        skip
        refine box_step ?hg (N := 13) ?hd (cs := #[.int .u64 0, .int .u64 0, .int .u64 0, .int .u64 0, .int .u64 0, .int .u64 0, .int .u64 0, .int .u64 0]) (t := 25) ?hr ?_; (case hd => rfl); (case hg => rfl); (case hr => first | (go_simp; done) | (go_simp; rfl))
        intro gb381 hg w23 hbox hb
        refine nx10_ (blk_below (g := gb375) (o := .cells #[.int .u64 (bco a3 0), .int .u64 (bco a3 1), .int .u64 (bco a3 2), .int .u64 (bco a3 3), .int .u64 (bco a3 4), .int .u64 (bco a3 5), .int .u64 (bco a3 6), .int .u64 (bco a3 7)] 25 (0, 0)) (kU_ BK375.out) hb) (blk_below (g := gb376) (o := .cells #[.int .u64 (bco a4 0), .int .u64 (bco a4 1), .int .u64 (bco a4 2), .int .u64 (bco a4 3), .int .u64 (bco a4 4), .int .u64 (bco a4 5), .int .u64 (bco a4 6), .int .u64 (bco a4 7)] 25 (0, 0)) (kU_ BK376.out) hb) (below_step sU_ hb) (hbox) ((hs_ hg (below_size sU_) : w.heap.size ≤ gb381)) ((hs_ hg (below_size sU_) : w.heap.size ≤ gb381)) ((by rw [hg]; exact Nat.ne_of_lt (blk_lt (g := gb375) (o := .cells #[.int .u64 (bco a3 0), .int .u64 (bco a3 1), .int .u64 (bco a3 2), .int .u64 (bco a3 3), .int .u64 (bco a3 4), .int .u64 (bco a3 5), .int .u64 (bco a3 6), .int .u64 (bco a3 7)] 25 (0, 0)) (kU_ BK375.out)) : gb375 ≠ gb381)) ((by rw [hg]; exact Nat.ne_of_gt (blk_lt (g := gb375) (o := .cells #[.int .u64 (bco a3 0), .int .u64 (bco a3 1), .int .u64 (bco a3 2), .int .u64 (bco a3 3), .int .u64 (bco a3 4), .int .u64 (bco a3 5), .int .u64 (bco a3 6), .int .u64 (bco a3 7)] 25 (0, 0)) (kU_ BK375.out)) : gb381 ≠ gb375)) ((by rw [hg]; exact Nat.ne_of_lt (blk_lt (g := gb376) (o := .cells #[.int .u64 (bco a4 0), .int .u64 (bco a4 1), .int .u64 (bco a4 2), .int .u64 (bco a4 3), .int .u64 (bco a4 4), .int .u64 (bco a4 5), .int .u64 (bco a4 6), .int .u64 (bco a4 7)] 25 (0, 0)) (kU_ BK376.out)) : gb376 ≠ gb381)) ((by rw [hg]; exact Nat.ne_of_gt (blk_lt (g := gb376) (o := .cells #[.int .u64 (bco a4 0), .int .u64 (bco a4 1), .int .u64 (bco a4 2), .int .u64 (bco a4 3), .int .u64 (bco a4 4), .int .u64 (bco a4 5), .int .u64 (bco a4 6), .int .u64 (bco a4 7)] 25 (0, 0)) (kU_ BK376.out)) : gb381 ≠ gb376)) ?_
        clear BK375 BK376 HB
        intro BK375 BK376 HB BK381 GW381 GE381 NB375_381 NB381_375 NB376_381 NB381_376
        clear hb hbox hg
        refine hK.out _ _ ⟨bc0_ BK375.out, bc1_ BK375.out, bc2_ BK375.out, (blk_cell BK375.out 3).trans rfl, (blk_cell BK375.out 4).trans rfl, (blk_cell BK375.out 5).trans rfl, (blk_cell BK375.out 6).trans rfl, (blk_cell BK375.out 7).trans rfl⟩ (fun hHeld => ?_)
        clear hK K
        refine norm_ (a' := ?_) ?_ ?_
        rotate_left
        ·show Act.put _ (some 13) _ = _
         simp only [Act.put, s1_, s2_, s3_, i64_w, i32_w]
         rfl
        refine oq_ 3 33 9 175 HT_.out fun K hK => ?_
        refine gs_ Tryd.func22 #[.int .i64 (wrap64 (Int.tmod a0 2)), .int .u64 x1_6] ?_
        with_reducible refine (field_Reduce.calls (wrap64 (Int.tmod a0 2)) x1_6 t379 _ ?side1 A18.out).mono ?_
        (case side1 => repeat (first | with_reducible exact HG.out | with_reducible exact (Fld.below HG.out HB.out) | exact (Fld.below HG.out sU_) | (with_reducible refine Fld.alloc ?_ _) | (with_reducible refine Fld.drewN ?_ _) | (with_reducible refine Fld.drew ?_)))
        rintro e w24 ⟨rfl, hb⟩
        refine ⟨_, rfl, ?_⟩
        refine nx4_ (blk_below (g := gb375) (o := .cells #[.int .u64 (bco a3 0), .int .u64 (bco a3 1), .int .u64 (bco a3 2), .int .u64 (bco a3 3), .int .u64 (bco a3 4), .int .u64 (bco a3 5), .int .u64 (bco a3 6), .int .u64 (bco a3 7)] 25 (0, 0)) (kU_ BK375.out) hb) (blk_below (g := gb376) (o := .cells #[.int .u64 (bco a4 0), .int .u64 (bco a4 1), .int .u64 (bco a4 2), .int .u64 (bco a4 3), .int .u64 (bco a4 4), .int .u64 (bco a4 5), .int .u64 (bco a4 6), .int .u64 (bco a4 7)] 25 (0, 0)) (kU_ BK376.out) hb) (blk_below (kU_ BK381.out) hb) (below_step sU_ hb) ?_
        clear BK375 BK376 BK381 HB
        intro BK375 BK376 BK381 HB
        (try clear hb)
        (try clear hb2)
        (try clear hk)
        (try clear hi)
        refine hK.out _ _ ⟨bc0_ BK375.out, bc1_ BK375.out, bc2_ BK375.out, (blk_cell BK375.out 3).trans rfl, (blk_cell BK375.out 4).trans rfl, (blk_cell BK375.out 5).trans rfl, (blk_cell BK375.out 6).trans rfl, (blk_cell BK375.out 7).trans rfl⟩ (fun hHeld => ?_)
        clear hK K
        refine norm_ (a' := ?_) ?_ ?_
        rotate_left
        ·show Act.put _ (some 33) _ = _
         simp only [Act.put, s1_, s2_, s3_, i64_w, i32_w]
         rfl
        refine pq_ 4 34 9 191 HT_.out ?_
        refine oq_ 6 36 9 255 HT_.out fun K hK => ?_
        refine gs_ Tryd.func23 #[.agg #[.int .i64 (wrap64 (Int.tmod a0 2)), .int .i64 3, .int .u64 t379], .slice (some ⟨gb375, 0, none⟩) [(bco a3 0), (bco a3 1), (bco a3 2), (bco a3 3), (bco a3 4), (bco a3 5), (bco a3 6), (bco a3 7)].length 8, .int .i64 0] ?_
        with_reducible refine (code_Local.calls kj15 (wrap64 (Int.tmod a0 2)) 3 t379 _ _ [(bco a3 0), (bco a3 1), (bco a3 2), (bco a3 3), (bco a3 4), (bco a3 5), (bco a3 6), (bco a3 7)] 0 t380 _ ?side1 ?side2 ?side3 A19.out).mono ?_
        (case side1 => repeat (first | with_reducible exact HG.out | with_reducible exact (Fld.below HG.out HB.out) | exact (Fld.below HG.out sU_) | (with_reducible refine Fld.alloc ?_ _) | (with_reducible refine Fld.drewN ?_ _) | (with_reducible refine Fld.drew ?_)))
        (case side2 => exact (Arr.C (l := [(bco a3 0), (bco a3 1), (bco a3 2), (bco a3 3), (bco a3 4), (bco a3 5), (bco a3 6), (bco a3 7)]) (t := 25) (show Arr _ _ _ _ from (kU_ BK375.out)) (show 8 ≤ 9223372036854775807 by decide)))
        (case side3 => exact Nat.le_refl 8)
        rintro e w25 ⟨rfl, hb⟩
        refine ⟨_, rfl, ?_⟩
        refine nx4_ (blk_below (g := gb375) (o := .cells #[.int .u64 (bco a3 0), .int .u64 (bco a3 1), .int .u64 (bco a3 2), .int .u64 (bco a3 3), .int .u64 (bco a3 4), .int .u64 (bco a3 5), .int .u64 (bco a3 6), .int .u64 (bco a3 7)] 25 (0, 0)) (kU_ BK375.out) hb) (blk_below (g := gb376) (o := .cells #[.int .u64 (bco a4 0), .int .u64 (bco a4 1), .int .u64 (bco a4 2), .int .u64 (bco a4 3), .int .u64 (bco a4 4), .int .u64 (bco a4 5), .int .u64 (bco a4 6), .int .u64 (bco a4 7)] 25 (0, 0)) (kU_ BK376.out) hb) (blk_below (kU_ BK381.out) hb) (below_step sU_ hb) ?_
        clear BK375 BK376 BK381 HB
        intro BK375 BK376 BK381 HB
        (try clear hb)
        (try clear hb2)
        (try clear hk)
        (try clear hi)
        refine hK.out _ _ ⟨bc0_ BK375.out, bc1_ BK375.out, bc2_ BK375.out, (blk_cell BK375.out 3).trans rfl, (blk_cell BK375.out 4).trans rfl, (blk_cell BK375.out 5).trans rfl, (blk_cell BK375.out 6).trans rfl, (blk_cell BK375.out 7).trans rfl⟩ (fun hHeld => ?_)
        clear hK K
        refine norm_ (a' := ?_) ?_ ?_
        rotate_left
        ·show Act.put _ (some 36) _ = _
         simp only [Act.put, s1_, s2_, s3_, i64_w, i32_w]
         rfl
        exact norm_ (by simp only [putAll, Act.put, List.setIfInBounds_toArray, List.set_cons_zero, List.set_cons_succ]) (hCont (gb381) _ ⟨hHeld, (kU_ BK375.out), (kU_ BK376.out), (kU_ BK381.out), GW381.out, GE381.out, NB375_381.out, NB381_375.out, NB376_381.out, NB381_376.out, sU_⟩)
       rintro gb381 w26 ⟨hS_, h0_, h1_, h2_, h3_, h4_, h5_, h6_, h7_, h8_, h9_⟩
       have n0_ : Aside0 (w26.heap[gb375]? = some (.cells #[.int .u64 (bco a3 0), .int .u64 (bco a3 1), .int .u64 (bco a3 2), .int .u64 (bco a3 3), .int .u64 (bco a3 4), .int .u64 (bco a3 5), .int .u64 (bco a3 6), .int .u64 (bco a3 7)] 25 (0, 0))) := ⟨h0_⟩
       have n1_ : Aside0 (w26.heap[gb376]? = some (.cells #[.int .u64 (bco a4 0), .int .u64 (bco a4 1), .int .u64 (bco a4 2), .int .u64 (bco a4 3), .int .u64 (bco a4 4), .int .u64 (bco a4 5), .int .u64 (bco a4 6), .int .u64 (bco a4 7)] 25 (0, 0))) := ⟨h1_⟩
       have n2_ : Aside0 (w26.heap[gb381]? = some (.cells #[.int .u64 0, .int .u64 0, .int .u64 0, .int .u64 0, .int .u64 0, .int .u64 0, .int .u64 0, .int .u64 0] 25 (0, 0))) := ⟨h2_⟩
       have n3_ : Aside0 (w.heap.size ≤ gb381) := ⟨h3_⟩
       have n4_ : Aside0 (w.heap.size ≤ gb381) := ⟨h4_⟩
       have n5_ : Aside0 (gb375 ≠ gb381) := ⟨h5_⟩
       have n6_ : Aside0 (gb381 ≠ gb375) := ⟨h6_⟩
       have n7_ : Aside0 (gb376 ≠ gb381) := ⟨h7_⟩
       have n8_ : Aside0 (gb381 ≠ gb376) := ⟨h8_⟩
       have n9_ : Aside0 (Below w.heap.size w w26) := ⟨h9_⟩
       clear BK375
       clear BK376
       clear HB
       clear h0_ h1_ h2_ h3_ h4_ h5_ h6_ h7_ h8_ h9_
       have BK375 := n0_
       have BK376 := n1_
       have BK381 := n2_
       have GW381 := n3_
       have GE381 := n4_
       have NB375_381 := n5_
       have NB381_375 := n6_
       have NB376_381 := n7_
       have NB381_376 := n8_
       have HB := n9_
       clear n0_ n1_ n2_ n3_ n4_ n5_ n6_ n7_ n8_ n9_
       have hHeld : w26.cell? ⟨gb375, 0, none⟩ = some (.int .u64 (bco a3 0)) ∧ w26.cell? ⟨gb375, 1, none⟩ = some (.int .u64 (bco a3 1)) ∧ w26.cell? ⟨gb375, 2, none⟩ = some (.int .u64 (bco a3 2)) ∧ w26.cell? ⟨gb375, 3, none⟩ = some (.int .u64 (bco a3 3)) ∧ w26.cell? ⟨gb375, 4, none⟩ = some (.int .u64 (bco a3 4)) ∧ w26.cell? ⟨gb375, 5, none⟩ = some (.int .u64 (bco a3 5)) ∧ w26.cell? ⟨gb375, 6, none⟩ = some (.int .u64 (bco a3 6)) ∧ w26.cell? ⟨gb375, 7, none⟩ = some (.int .u64 (bco a3 7)) := hS_
       refine norm_ (a' := ?_) ?_ ?_
       rotate_left
       ·simp only [putAll, Act.put, List.setIfInBounds_toArray, List.set_cons_zero, List.set_cons_succ]
        rfl
       refine one_ (i := 8) (N := none) (bv 9 511) rfl rfl (one_of HT_.out (by kernel_rfl)) (by decide) (fun K hK => ?_)
       have hs27 : w26.cell? ⟨gb381, 0, none⟩ = some (.int .u64 0) := bc0_ BK381.out
       have hfs27 := blk_frozen BK381.out 0
       have hns27_0 := NB375_381.out
       have hns27_1 := NB376_381.out
       have hms27_0 := NB381_375.out
       have hms27_1 := NB381_376.out
       have hs28 : w26.cell? ⟨gb381, 1, none⟩ = some (.int .u64 0) := bc1_ BK381.out
       have hfs28 := blk_frozen BK381.out 1
       have hns28_0 := NB375_381.out
       have hns28_1 := NB376_381.out
       have hms28_0 := NB381_375.out
       have hms28_1 := NB381_376.out
       have hs29 : w26.cell? ⟨gb381, 2, none⟩ = some (.int .u64 0) := bc2_ BK381.out
       have hfs29 := blk_frozen BK381.out 2
       have hns29_0 := NB375_381.out
       have hns29_1 := NB376_381.out
       have hms29_0 := NB381_375.out
       have hms29_1 := NB381_376.out
       have hs30 : w26.cell? ⟨gb381, 3, none⟩ = some (.int .u64 0) := (blk_cell BK381.out 3).trans rfl
       have hfs30 := blk_frozen BK381.out 3
       have hns30_0 := NB375_381.out
       have hns30_1 := NB376_381.out
       have hms30_0 := NB381_375.out
       have hms30_1 := NB381_376.out
       have hs31 : w26.cell? ⟨gb381, 4, none⟩ = some (.int .u64 0) := (blk_cell BK381.out 4).trans rfl
       have hfs31 := blk_frozen BK381.out 4
       have hns31_0 := NB375_381.out
       have hns31_1 := NB376_381.out
       have hms31_0 := NB381_375.out
       have hms31_1 := NB381_376.out
       have hs32 : w26.cell? ⟨gb381, 5, none⟩ = some (.int .u64 0) := (blk_cell BK381.out 5).trans rfl
       have hfs32 := blk_frozen BK381.out 5
       have hns32_0 := NB375_381.out
       have hns32_1 := NB376_381.out
       have hms32_0 := NB381_375.out
       have hms32_1 := NB381_376.out
       have hs33 : w26.cell? ⟨gb381, 6, none⟩ = some (.int .u64 0) := (blk_cell BK381.out 6).trans rfl
       have hfs33 := blk_frozen BK381.out 6
       have hns33_0 := NB375_381.out
       have hns33_1 := NB376_381.out
       have hms33_0 := NB381_375.out
       have hms33_1 := NB381_376.out
       have hs34 : w26.cell? ⟨gb381, 7, none⟩ = some (.int .u64 0) := (blk_cell BK381.out 7).trans rfl
       have hfs34 := blk_frozen BK381.out 7
       have hns34_0 := NB375_381.out
       have hns34_1 := NB376_381.out
       have hms34_0 := NB381_375.out
       have hms34_1 := NB381_376.out
       refine skip_ (w1 := ?_) (by rfl) rfl ?_ ?_
       rotate_left
       ·go_simp
        rfl
       refine hK.out _ _ ⟨((cell_far (p := ⟨gb381, _, none⟩) NB375_381.out _).trans (((cell_far (p := ⟨gb381, _, none⟩) NB375_381.out _).trans (((cell_far (p := ⟨gb381, _, none⟩) NB375_381.out _).trans (((cell_far (p := ⟨gb381, _, none⟩) NB375_381.out _).trans (((cell_far (p := ⟨gb381, _, none⟩) NB375_381.out _).trans (((cell_far (p := ⟨gb381, _, none⟩) NB375_381.out _).trans (((cell_far (p := ⟨gb381, _, none⟩) NB375_381.out _).trans (((cell_far (p := ⟨gb381, _, none⟩) NB375_381.out _).trans (hHeld.1)))))))))))))))), ((cell_far (p := ⟨gb381, _, none⟩) NB375_381.out _).trans (((cell_far (p := ⟨gb381, _, none⟩) NB375_381.out _).trans (((cell_far (p := ⟨gb381, _, none⟩) NB375_381.out _).trans (((cell_far (p := ⟨gb381, _, none⟩) NB375_381.out _).trans (((cell_far (p := ⟨gb381, _, none⟩) NB375_381.out _).trans (((cell_far (p := ⟨gb381, _, none⟩) NB375_381.out _).trans (((cell_far (p := ⟨gb381, _, none⟩) NB375_381.out _).trans (((cell_far (p := ⟨gb381, _, none⟩) NB375_381.out _).trans (hHeld.2.1)))))))))))))))), ((cell_far (p := ⟨gb381, _, none⟩) NB375_381.out _).trans (((cell_far (p := ⟨gb381, _, none⟩) NB375_381.out _).trans (((cell_far (p := ⟨gb381, _, none⟩) NB375_381.out _).trans (((cell_far (p := ⟨gb381, _, none⟩) NB375_381.out _).trans (((cell_far (p := ⟨gb381, _, none⟩) NB375_381.out _).trans (((cell_far (p := ⟨gb381, _, none⟩) NB375_381.out _).trans (((cell_far (p := ⟨gb381, _, none⟩) NB375_381.out _).trans (((cell_far (p := ⟨gb381, _, none⟩) NB375_381.out _).trans (hHeld.2.2.1)))))))))))))))), ((cell_far (p := ⟨gb381, _, none⟩) NB375_381.out _).trans (((cell_far (p := ⟨gb381, _, none⟩) NB375_381.out _).trans (((cell_far (p := ⟨gb381, _, none⟩) NB375_381.out _).trans (((cell_far (p := ⟨gb381, _, none⟩) NB375_381.out _).trans (((cell_far (p := ⟨gb381, _, none⟩) NB375_381.out _).trans (((cell_far (p := ⟨gb381, _, none⟩) NB375_381.out _).trans (((cell_far (p := ⟨gb381, _, none⟩) NB375_381.out _).trans (((cell_far (p := ⟨gb381, _, none⟩) NB375_381.out _).trans (hHeld.2.2.2.1)))))))))))))))), ((cell_far (p := ⟨gb381, _, none⟩) NB375_381.out _).trans (((cell_far (p := ⟨gb381, _, none⟩) NB375_381.out _).trans (((cell_far (p := ⟨gb381, _, none⟩) NB375_381.out _).trans (((cell_far (p := ⟨gb381, _, none⟩) NB375_381.out _).trans (((cell_far (p := ⟨gb381, _, none⟩) NB375_381.out _).trans (((cell_far (p := ⟨gb381, _, none⟩) NB375_381.out _).trans (((cell_far (p := ⟨gb381, _, none⟩) NB375_381.out _).trans (((cell_far (p := ⟨gb381, _, none⟩) NB375_381.out _).trans (hHeld.2.2.2.2.1)))))))))))))))), ((cell_far (p := ⟨gb381, _, none⟩) NB375_381.out _).trans (((cell_far (p := ⟨gb381, _, none⟩) NB375_381.out _).trans (((cell_far (p := ⟨gb381, _, none⟩) NB375_381.out _).trans (((cell_far (p := ⟨gb381, _, none⟩) NB375_381.out _).trans (((cell_far (p := ⟨gb381, _, none⟩) NB375_381.out _).trans (((cell_far (p := ⟨gb381, _, none⟩) NB375_381.out _).trans (((cell_far (p := ⟨gb381, _, none⟩) NB375_381.out _).trans (((cell_far (p := ⟨gb381, _, none⟩) NB375_381.out _).trans (hHeld.2.2.2.2.2.1)))))))))))))))), ((cell_far (p := ⟨gb381, _, none⟩) NB375_381.out _).trans (((cell_far (p := ⟨gb381, _, none⟩) NB375_381.out _).trans (((cell_far (p := ⟨gb381, _, none⟩) NB375_381.out _).trans (((cell_far (p := ⟨gb381, _, none⟩) NB375_381.out _).trans (((cell_far (p := ⟨gb381, _, none⟩) NB375_381.out _).trans (((cell_far (p := ⟨gb381, _, none⟩) NB375_381.out _).trans (((cell_far (p := ⟨gb381, _, none⟩) NB375_381.out _).trans (((cell_far (p := ⟨gb381, _, none⟩) NB375_381.out _).trans (hHeld.2.2.2.2.2.2.1)))))))))))))))), ((cell_far (p := ⟨gb381, _, none⟩) NB375_381.out _).trans (((cell_far (p := ⟨gb381, _, none⟩) NB375_381.out _).trans (((cell_far (p := ⟨gb381, _, none⟩) NB375_381.out _).trans (((cell_far (p := ⟨gb381, _, none⟩) NB375_381.out _).trans (((cell_far (p := ⟨gb381, _, none⟩) NB375_381.out _).trans (((cell_far (p := ⟨gb381, _, none⟩) NB375_381.out _).trans (((cell_far (p := ⟨gb381, _, none⟩) NB375_381.out _).trans (((cell_far (p := ⟨gb381, _, none⟩) NB375_381.out _).trans (hHeld.2.2.2.2.2.2.2))))))))))))))))⟩ (fun hHeld => ?_)
       clear hK K
       refine done_ (done_of HT_.out (by kernel_rfl)) ?_
       try go_wp2
       have n0_ : Aside0 (((((((((w26.setCell ⟨gb381, 0, none⟩ (.int .u64 (bco t380 0))).setCell ⟨gb381, 1, none⟩ (.int .u64 (bco t380 1))).setCell ⟨gb381, 2, none⟩ (.int .u64 (bco t380 2))).setCell ⟨gb381, 3, none⟩ (.int .u64 (bco t380 3))).setCell ⟨gb381, 4, none⟩ (.int .u64 (bco t380 4))).setCell ⟨gb381, 5, none⟩ (.int .u64 (bco t380 5))).setCell ⟨gb381, 6, none⟩ (.int .u64 (bco t380 6))).setCell ⟨gb381, 7, none⟩ (.int .u64 (bco t380 7))).heap[gb375]? = some (.cells #[.int .u64 (bco a3 0), .int .u64 (bco a3 1), .int .u64 (bco a3 2), .int .u64 (bco a3 3), .int .u64 (bco a3 4), .int .u64 (bco a3 5), .int .u64 (bco a3 6), .int .u64 (bco a3 7)] 25 (0, 0))) := ⟨by (with_reducible repeat (first | refine blk_drewN ?_ _ | refine blk_drew ?_ | refine blk_alloc ?_ _)); refine blk_far ?_ NB375_381.out _; (with_reducible repeat (first | refine blk_drewN ?_ _ | refine blk_drew ?_ | refine blk_alloc ?_ _)); refine blk_far ?_ NB375_381.out _; (with_reducible repeat (first | refine blk_drewN ?_ _ | refine blk_drew ?_ | refine blk_alloc ?_ _)); refine blk_far ?_ NB375_381.out _; (with_reducible repeat (first | refine blk_drewN ?_ _ | refine blk_drew ?_ | refine blk_alloc ?_ _)); refine blk_far ?_ NB375_381.out _; (with_reducible repeat (first | refine blk_drewN ?_ _ | refine blk_drew ?_ | refine blk_alloc ?_ _)); refine blk_far ?_ NB375_381.out _; (with_reducible repeat (first | refine blk_drewN ?_ _ | refine blk_drew ?_ | refine blk_alloc ?_ _)); refine blk_far ?_ NB375_381.out _; (with_reducible repeat (first | refine blk_drewN ?_ _ | refine blk_drew ?_ | refine blk_alloc ?_ _)); refine blk_far ?_ NB375_381.out _; (with_reducible repeat (first | refine blk_drewN ?_ _ | refine blk_drew ?_ | refine blk_alloc ?_ _)); refine blk_far ?_ NB375_381.out _; (with_reducible repeat (first | refine blk_drewN ?_ _ | refine blk_drew ?_ | refine blk_alloc ?_ _)); exact BK375.out⟩
       have n1_ : Aside0 (((((((((w26.setCell ⟨gb381, 0, none⟩ (.int .u64 (bco t380 0))).setCell ⟨gb381, 1, none⟩ (.int .u64 (bco t380 1))).setCell ⟨gb381, 2, none⟩ (.int .u64 (bco t380 2))).setCell ⟨gb381, 3, none⟩ (.int .u64 (bco t380 3))).setCell ⟨gb381, 4, none⟩ (.int .u64 (bco t380 4))).setCell ⟨gb381, 5, none⟩ (.int .u64 (bco t380 5))).setCell ⟨gb381, 6, none⟩ (.int .u64 (bco t380 6))).setCell ⟨gb381, 7, none⟩ (.int .u64 (bco t380 7))).heap[gb376]? = some (.cells #[.int .u64 (bco a4 0), .int .u64 (bco a4 1), .int .u64 (bco a4 2), .int .u64 (bco a4 3), .int .u64 (bco a4 4), .int .u64 (bco a4 5), .int .u64 (bco a4 6), .int .u64 (bco a4 7)] 25 (0, 0))) := ⟨by (with_reducible repeat (first | refine blk_drewN ?_ _ | refine blk_drew ?_ | refine blk_alloc ?_ _)); refine blk_far ?_ NB376_381.out _; (with_reducible repeat (first | refine blk_drewN ?_ _ | refine blk_drew ?_ | refine blk_alloc ?_ _)); refine blk_far ?_ NB376_381.out _; (with_reducible repeat (first | refine blk_drewN ?_ _ | refine blk_drew ?_ | refine blk_alloc ?_ _)); refine blk_far ?_ NB376_381.out _; (with_reducible repeat (first | refine blk_drewN ?_ _ | refine blk_drew ?_ | refine blk_alloc ?_ _)); refine blk_far ?_ NB376_381.out _; (with_reducible repeat (first | refine blk_drewN ?_ _ | refine blk_drew ?_ | refine blk_alloc ?_ _)); refine blk_far ?_ NB376_381.out _; (with_reducible repeat (first | refine blk_drewN ?_ _ | refine blk_drew ?_ | refine blk_alloc ?_ _)); refine blk_far ?_ NB376_381.out _; (with_reducible repeat (first | refine blk_drewN ?_ _ | refine blk_drew ?_ | refine blk_alloc ?_ _)); refine blk_far ?_ NB376_381.out _; (with_reducible repeat (first | refine blk_drewN ?_ _ | refine blk_drew ?_ | refine blk_alloc ?_ _)); refine blk_far ?_ NB376_381.out _; (with_reducible repeat (first | refine blk_drewN ?_ _ | refine blk_drew ?_ | refine blk_alloc ?_ _)); exact BK376.out⟩
       have n2_ : Aside0 (((((((((w26.setCell ⟨gb381, 0, none⟩ (.int .u64 (bco t380 0))).setCell ⟨gb381, 1, none⟩ (.int .u64 (bco t380 1))).setCell ⟨gb381, 2, none⟩ (.int .u64 (bco t380 2))).setCell ⟨gb381, 3, none⟩ (.int .u64 (bco t380 3))).setCell ⟨gb381, 4, none⟩ (.int .u64 (bco t380 4))).setCell ⟨gb381, 5, none⟩ (.int .u64 (bco t380 5))).setCell ⟨gb381, 6, none⟩ (.int .u64 (bco t380 6))).setCell ⟨gb381, 7, none⟩ (.int .u64 (bco t380 7))).heap[gb381]? = some (.cells #[.int .u64 (bco t380 0), .int .u64 (bco t380 1), .int .u64 (bco t380 2), .int .u64 (bco t380 3), .int .u64 (bco t380 4), .int .u64 (bco t380 5), .int .u64 (bco t380 6), .int .u64 (bco t380 7)] 25 (0, 0))) := ⟨by (with_reducible repeat (first | refine blk_drewN ?_ _ | refine blk_drew ?_ | refine blk_alloc ?_ _)); refine blk_put (cs := #[.int .u64 (bco t380 0), .int .u64 (bco t380 1), .int .u64 (bco t380 2), .int .u64 (bco t380 3), .int .u64 (bco t380 4), .int .u64 (bco t380 5), .int .u64 (bco t380 6), .int .u64 0]) ?_ 7 _ rfl; (with_reducible repeat (first | refine blk_drewN ?_ _ | refine blk_drew ?_ | refine blk_alloc ?_ _)); refine blk_put (cs := #[.int .u64 (bco t380 0), .int .u64 (bco t380 1), .int .u64 (bco t380 2), .int .u64 (bco t380 3), .int .u64 (bco t380 4), .int .u64 (bco t380 5), .int .u64 0, .int .u64 0]) ?_ 6 _ rfl; (with_reducible repeat (first | refine blk_drewN ?_ _ | refine blk_drew ?_ | refine blk_alloc ?_ _)); refine blk_put (cs := #[.int .u64 (bco t380 0), .int .u64 (bco t380 1), .int .u64 (bco t380 2), .int .u64 (bco t380 3), .int .u64 (bco t380 4), .int .u64 0, .int .u64 0, .int .u64 0]) ?_ 5 _ rfl; (with_reducible repeat (first | refine blk_drewN ?_ _ | refine blk_drew ?_ | refine blk_alloc ?_ _)); refine blk_put (cs := #[.int .u64 (bco t380 0), .int .u64 (bco t380 1), .int .u64 (bco t380 2), .int .u64 (bco t380 3), .int .u64 0, .int .u64 0, .int .u64 0, .int .u64 0]) ?_ 4 _ rfl; (with_reducible repeat (first | refine blk_drewN ?_ _ | refine blk_drew ?_ | refine blk_alloc ?_ _)); refine blk_put (cs := #[.int .u64 (bco t380 0), .int .u64 (bco t380 1), .int .u64 (bco t380 2), .int .u64 0, .int .u64 0, .int .u64 0, .int .u64 0, .int .u64 0]) ?_ 3 _ rfl; (with_reducible repeat (first | refine blk_drewN ?_ _ | refine blk_drew ?_ | refine blk_alloc ?_ _)); refine blk_put (cs := #[.int .u64 (bco t380 0), .int .u64 (bco t380 1), .int .u64 0, .int .u64 0, .int .u64 0, .int .u64 0, .int .u64 0, .int .u64 0]) ?_ 2 _ rfl; (with_reducible repeat (first | refine blk_drewN ?_ _ | refine blk_drew ?_ | refine blk_alloc ?_ _)); refine blk_put (cs := #[.int .u64 (bco t380 0), .int .u64 0, .int .u64 0, .int .u64 0, .int .u64 0, .int .u64 0, .int .u64 0, .int .u64 0]) ?_ 1 _ rfl; (with_reducible repeat (first | refine blk_drewN ?_ _ | refine blk_drew ?_ | refine blk_alloc ?_ _)); refine blk_put (cs := #[.int .u64 0, .int .u64 0, .int .u64 0, .int .u64 0, .int .u64 0, .int .u64 0, .int .u64 0, .int .u64 0]) ?_ 0 _ rfl; (with_reducible repeat (first | refine blk_drewN ?_ _ | refine blk_drew ?_ | refine blk_alloc ?_ _)); exact BK381.out⟩
       have n3_ : Aside0 (Below w.heap.size w ((((((((w26.setCell ⟨gb381, 0, none⟩ (.int .u64 (bco t380 0))).setCell ⟨gb381, 1, none⟩ (.int .u64 (bco t380 1))).setCell ⟨gb381, 2, none⟩ (.int .u64 (bco t380 2))).setCell ⟨gb381, 3, none⟩ (.int .u64 (bco t380 3))).setCell ⟨gb381, 4, none⟩ (.int .u64 (bco t380 4))).setCell ⟨gb381, 5, none⟩ (.int .u64 (bco t380 5))).setCell ⟨gb381, 6, none⟩ (.int .u64 (bco t380 6))).setCell ⟨gb381, 7, none⟩ (.int .u64 (bco t380 7)))) := ⟨sU_⟩
       (try clear BK375)
       (try clear BK376)
       (try clear BK381)
       (try clear HB)
       generalize ((((((((w26.setCell ⟨gb381, 0, none⟩ (.int .u64 (bco t380 0))).setCell ⟨gb381, 1, none⟩ (.int .u64 (bco t380 1))).setCell ⟨gb381, 2, none⟩ (.int .u64 (bco t380 2))).setCell ⟨gb381, 3, none⟩ (.int .u64 (bco t380 3))).setCell ⟨gb381, 4, none⟩ (.int .u64 (bco t380 4))).setCell ⟨gb381, 5, none⟩ (.int .u64 (bco t380 5))).setCell ⟨gb381, 6, none⟩ (.int .u64 (bco t380 6))).setCell ⟨gb381, 7, none⟩ (.int .u64 (bco t380 7))) = w35 at n0_ n1_ n2_ n3_ ⊢
       have BK375 := n0_
       have BK376 := n1_
       have BK381 := n2_
       have HB := n3_
       clear n0_ n1_ n2_ n3_
       refine nx4_ (blk_drew BK375.out) (blk_drew BK376.out) (blk_drew BK381.out) (below_drew1 HB.out) ?_
       clear BK375 BK376 BK381 HB
       intro BK375 BK376 BK381 HB
       refine start_ (n := 9) (S := fun w' => w'.cell? ⟨gb376, 0, none⟩ = some (.int .u64 (bco a4 0)) ∧ w'.cell? ⟨gb376, 1, none⟩ = some (.int .u64 (bco a4 1)) ∧ w'.cell? ⟨gb376, 2, none⟩ = some (.int .u64 (bco a4 2)) ∧ w'.cell? ⟨gb376, 3, none⟩ = some (.int .u64 (bco a4 3)) ∧ w'.cell? ⟨gb376, 4, none⟩ = some (.int .u64 (bco a4 4)) ∧ w'.cell? ⟨gb376, 5, none⟩ = some (.int .u64 (bco a4 5)) ∧ w'.cell? ⟨gb376, 6, none⟩ = some (.int .u64 (bco a4 6)) ∧ w'.cell? ⟨gb376, 7, none⟩ = some (.int .u64 (bco a4 7))) (ds := []) (bv 9 0) (by kernel_rfl) rfl rfl ⟨bc0_ BK376.out, bc1_ BK376.out, bc2_ BK376.out, (blk_cell BK376.out 3).trans rfl, (blk_cell BK376.out 4).trans rfl, (blk_cell BK376.out 5).trans rfl, (blk_cell BK376.out 6).trans rfl, (blk_cell BK376.out 7).trans rfl⟩ (fun hHeld => ?_); refine with_tabW attestorlaw09_FoldApart.tab10 attestorlaw09_FoldApart.bits10 (fun HT_ HW_ => ?_)
       generalize w35.drew = w36 at BK375 BK376 BK381 HB hHeld ⊢
       refine pq_ 0 37 9 1 HT_.out ?_
       refine pq_ 1 38 9 3 HT_.out ?_
       refine pq_ 2 39 9 7 HT_.out ?_
       refine pq_ 5 42 9 39 HT_.out ?_
       refine join_ (σ := Nat) 1 #[true, true, true, true, true, true, true, true, false] (fun s_ => [(40, .int .u64 t382), (43, .agg #[.int .u64 (bco t383 0), .int .u64 (bco t383 1), .int .u64 (bco t383 2), .int .u64 (bco t383 3), .int .u64 (bco t383 4), .int .u64 (bco t383 5), .int .u64 (bco t383 6), .int .u64 (bco t383 7)]), (14, .pointer (some ⟨s_, 0, none⟩)), (41, .agg #[.int .i64 (wrap64 (Int.tmod a0 2)), .int .i64 3, .int .u64 t382])]) (fun s_ w' => (w'.cell? ⟨gb376, 0, none⟩ = some (.int .u64 (bco a4 0)) ∧ w'.cell? ⟨gb376, 1, none⟩ = some (.int .u64 (bco a4 1)) ∧ w'.cell? ⟨gb376, 2, none⟩ = some (.int .u64 (bco a4 2)) ∧ w'.cell? ⟨gb376, 3, none⟩ = some (.int .u64 (bco a4 3)) ∧ w'.cell? ⟨gb376, 4, none⟩ = some (.int .u64 (bco a4 4)) ∧ w'.cell? ⟨gb376, 5, none⟩ = some (.int .u64 (bco a4 5)) ∧ w'.cell? ⟨gb376, 6, none⟩ = some (.int .u64 (bco a4 6)) ∧ w'.cell? ⟨gb376, 7, none⟩ = some (.int .u64 (bco a4 7))) ∧ (w'.heap[gb375]? = some (.cells #[.int .u64 (bco a3 0), .int .u64 (bco a3 1), .int .u64 (bco a3 2), .int .u64 (bco a3 3), .int .u64 (bco a3 4), .int .u64 (bco a3 5), .int .u64 (bco a3 6), .int .u64 (bco a3 7)] 25 (0, 0))) ∧ (w'.heap[gb376]? = some (.cells #[.int .u64 (bco a4 0), .int .u64 (bco a4 1), .int .u64 (bco a4 2), .int .u64 (bco a4 3), .int .u64 (bco a4 4), .int .u64 (bco a4 5), .int .u64 (bco a4 6), .int .u64 (bco a4 7)] 25 (0, 0))) ∧ (w'.heap[gb381]? = some (.cells #[.int .u64 (bco t380 0), .int .u64 (bco t380 1), .int .u64 (bco t380 2), .int .u64 (bco t380 3), .int .u64 (bco t380 4), .int .u64 (bco t380 5), .int .u64 (bco t380 6), .int .u64 (bco t380 7)] 25 (0, 0))) ∧ (w'.heap[s_]? = some (.cells #[.int .u64 0, .int .u64 0, .int .u64 0, .int .u64 0, .int .u64 0, .int .u64 0, .int .u64 0, .int .u64 0] 25 (0, 0))) ∧ (w.heap.size ≤ s_) ∧ (w.heap.size ≤ s_) ∧ (gb375 ≠ s_) ∧ (s_ ≠ gb375) ∧ (gb376 ≠ s_) ∧ (s_ ≠ gb376) ∧ (gb381 ≠ s_) ∧ (s_ ≠ gb381) ∧ (Below w.heap.size w w')) ?_ ?_
       rotate_left
       ·intro hCont
        refine two_ (i := 3) (j := 7) (Ni := some 40) (Nj := some 14) (bv 9 47) (bv 9 167) rfl rfl rfl rfl (two_of HT_.out (by kernel_rfl)) (by decide) (by decide) (fun K hK => ?_) (fun K hK => ?_)
        ·skip
         refine gs_ Tryd.func22 #[.int .i64 (wrap64 (Int.tmod a0 2)), .int .u64 x2_12] ?_
         with_reducible refine (field_Reduce.calls (wrap64 (Int.tmod a0 2)) x2_12 t382 _ ?side1 A20.out).mono ?_
         (case side1 => repeat (first | with_reducible exact HG.out | with_reducible exact (Fld.below HG.out HB.out) | exact (Fld.below HG.out sU_) | (with_reducible refine Fld.alloc ?_ _) | (with_reducible refine Fld.drewN ?_ _) | (with_reducible refine Fld.drew ?_)))
         rintro e w37 ⟨rfl, hb⟩
         refine ⟨_, rfl, ?_⟩
         refine nx4_ (blk_below (g := gb375) (o := .cells #[.int .u64 (bco a3 0), .int .u64 (bco a3 1), .int .u64 (bco a3 2), .int .u64 (bco a3 3), .int .u64 (bco a3 4), .int .u64 (bco a3 5), .int .u64 (bco a3 6), .int .u64 (bco a3 7)] 25 (0, 0)) (kU_ BK375.out) hb) (blk_below (g := gb376) (o := .cells #[.int .u64 (bco a4 0), .int .u64 (bco a4 1), .int .u64 (bco a4 2), .int .u64 (bco a4 3), .int .u64 (bco a4 4), .int .u64 (bco a4 5), .int .u64 (bco a4 6), .int .u64 (bco a4 7)] 25 (0, 0)) (kU_ BK376.out) hb) (blk_below (g := gb381) (o := .cells #[.int .u64 (bco t380 0), .int .u64 (bco t380 1), .int .u64 (bco t380 2), .int .u64 (bco t380 3), .int .u64 (bco t380 4), .int .u64 (bco t380 5), .int .u64 (bco t380 6), .int .u64 (bco t380 7)] 25 (0, 0)) (kU_ BK381.out) hb) (below_step sU_ hb) ?_
         clear BK375 BK376 BK381 HB
         intro BK375 BK376 BK381 HB
         (try clear hb)
         (try clear hb2)
         (try clear hk)
         (try clear hi)
         refine hK.out _ _ ⟨bc0_ BK376.out, bc1_ BK376.out, bc2_ BK376.out, (blk_cell BK376.out 3).trans rfl, (blk_cell BK376.out 4).trans rfl, (blk_cell BK376.out 5).trans rfl, (blk_cell BK376.out 6).trans rfl, (blk_cell BK376.out 7).trans rfl⟩ (fun hHeld => ?_)
         clear hK K
         refine norm_ (a' := ?_) ?_ ?_
         rotate_left
         ·show Act.put _ (some 40) _ = _
          simp only [Act.put, s1_, s2_, s3_, i64_w, i32_w]
          rfl
         refine pq_ 4 41 9 63 HT_.out ?_
         refine two_ (i := 6) (j := 7) (Ni := some 43) (Nj := some 14) (bv 9 127) (bv 9 191) rfl rfl rfl rfl (two_of HT_.out (by kernel_rfl)) (by decide) (by decide) (fun K hK => ?_) (fun K hK => ?_)
         ·skip
          refine gs_ Tryd.func23 #[.agg #[.int .i64 (wrap64 (Int.tmod a0 2)), .int .i64 3, .int .u64 t382], .slice (some ⟨gb376, 0, none⟩) [(bco a4 0), (bco a4 1), (bco a4 2), (bco a4 3), (bco a4 4), (bco a4 5), (bco a4 6), (bco a4 7)].length 8, .int .i64 0] ?_
          with_reducible refine (code_Local.calls kj15 (wrap64 (Int.tmod a0 2)) 3 t382 _ _ [(bco a4 0), (bco a4 1), (bco a4 2), (bco a4 3), (bco a4 4), (bco a4 5), (bco a4 6), (bco a4 7)] 0 t383 _ ?side1 ?side2 ?side3 A21.out).mono ?_
          (case side1 => repeat (first | with_reducible exact HG.out | with_reducible exact (Fld.below HG.out HB.out) | exact (Fld.below HG.out sU_) | (with_reducible refine Fld.alloc ?_ _) | (with_reducible refine Fld.drewN ?_ _) | (with_reducible refine Fld.drew ?_)))
          (case side2 => exact (Arr.C (l := [(bco a4 0), (bco a4 1), (bco a4 2), (bco a4 3), (bco a4 4), (bco a4 5), (bco a4 6), (bco a4 7)]) (t := 25) (show Arr _ _ _ _ from (kU_ BK376.out)) (show 8 ≤ 9223372036854775807 by decide)))
          (case side3 => exact Nat.le_refl 8)
          rintro e w38 ⟨rfl, hb⟩
          refine ⟨_, rfl, ?_⟩
          refine nx4_ (blk_below (g := gb375) (o := .cells #[.int .u64 (bco a3 0), .int .u64 (bco a3 1), .int .u64 (bco a3 2), .int .u64 (bco a3 3), .int .u64 (bco a3 4), .int .u64 (bco a3 5), .int .u64 (bco a3 6), .int .u64 (bco a3 7)] 25 (0, 0)) (kU_ BK375.out) hb) (blk_below (g := gb376) (o := .cells #[.int .u64 (bco a4 0), .int .u64 (bco a4 1), .int .u64 (bco a4 2), .int .u64 (bco a4 3), .int .u64 (bco a4 4), .int .u64 (bco a4 5), .int .u64 (bco a4 6), .int .u64 (bco a4 7)] 25 (0, 0)) (kU_ BK376.out) hb) (blk_below (g := gb381) (o := .cells #[.int .u64 (bco t380 0), .int .u64 (bco t380 1), .int .u64 (bco t380 2), .int .u64 (bco t380 3), .int .u64 (bco t380 4), .int .u64 (bco t380 5), .int .u64 (bco t380 6), .int .u64 (bco t380 7)] 25 (0, 0)) (kU_ BK381.out) hb) (below_step sU_ hb) ?_
          clear BK375 BK376 BK381 HB
          intro BK375 BK376 BK381 HB
          (try clear hb)
          (try clear hb2)
          (try clear hk)
          (try clear hi)
          refine hK.out _ _ ⟨bc0_ BK376.out, bc1_ BK376.out, bc2_ BK376.out, (blk_cell BK376.out 3).trans rfl, (blk_cell BK376.out 4).trans rfl, (blk_cell BK376.out 5).trans rfl, (blk_cell BK376.out 6).trans rfl, (blk_cell BK376.out 7).trans rfl⟩ (fun hHeld => ?_)
          clear hK K
          refine norm_ (a' := ?_) ?_ ?_
          rotate_left
          ·show Act.put _ (some 43) _ = _
           simp only [Act.put, s1_, s2_, s3_, i64_w, i32_w]
           rfl
          refine oq_ 7 14 9 255 HT_.out fun K hK => ?_
          refine box_step ?hg (N := 14) ?hd (cs := #[.int .u64 0, .int .u64 0, .int .u64 0, .int .u64 0, .int .u64 0, .int .u64 0, .int .u64 0, .int .u64 0]) (t := 25) ?hr ?_; (case hd => rfl); (case hg => rfl); (case hr => first | (go_simp; done) | (go_simp; rfl))
          intro gb384 hg w39 hbox hb
          refine nx13_ (blk_below (g := gb375) (o := .cells #[.int .u64 (bco a3 0), .int .u64 (bco a3 1), .int .u64 (bco a3 2), .int .u64 (bco a3 3), .int .u64 (bco a3 4), .int .u64 (bco a3 5), .int .u64 (bco a3 6), .int .u64 (bco a3 7)] 25 (0, 0)) (kU_ BK375.out) hb) (blk_below (g := gb376) (o := .cells #[.int .u64 (bco a4 0), .int .u64 (bco a4 1), .int .u64 (bco a4 2), .int .u64 (bco a4 3), .int .u64 (bco a4 4), .int .u64 (bco a4 5), .int .u64 (bco a4 6), .int .u64 (bco a4 7)] 25 (0, 0)) (kU_ BK376.out) hb) (blk_below (g := gb381) (o := .cells #[.int .u64 (bco t380 0), .int .u64 (bco t380 1), .int .u64 (bco t380 2), .int .u64 (bco t380 3), .int .u64 (bco t380 4), .int .u64 (bco t380 5), .int .u64 (bco t380 6), .int .u64 (bco t380 7)] 25 (0, 0)) (kU_ BK381.out) hb) (below_step sU_ hb) (hbox) ((hs_ hg (below_size sU_) : w.heap.size ≤ gb384)) ((hs_ hg (below_size sU_) : w.heap.size ≤ gb384)) ((by rw [hg]; exact Nat.ne_of_lt (blk_lt (g := gb375) (o := .cells #[.int .u64 (bco a3 0), .int .u64 (bco a3 1), .int .u64 (bco a3 2), .int .u64 (bco a3 3), .int .u64 (bco a3 4), .int .u64 (bco a3 5), .int .u64 (bco a3 6), .int .u64 (bco a3 7)] 25 (0, 0)) (kU_ BK375.out)) : gb375 ≠ gb384)) ((by rw [hg]; exact Nat.ne_of_gt (blk_lt (g := gb375) (o := .cells #[.int .u64 (bco a3 0), .int .u64 (bco a3 1), .int .u64 (bco a3 2), .int .u64 (bco a3 3), .int .u64 (bco a3 4), .int .u64 (bco a3 5), .int .u64 (bco a3 6), .int .u64 (bco a3 7)] 25 (0, 0)) (kU_ BK375.out)) : gb384 ≠ gb375)) ((by rw [hg]; exact Nat.ne_of_lt (blk_lt (g := gb376) (o := .cells #[.int .u64 (bco a4 0), .int .u64 (bco a4 1), .int .u64 (bco a4 2), .int .u64 (bco a4 3), .int .u64 (bco a4 4), .int .u64 (bco a4 5), .int .u64 (bco a4 6), .int .u64 (bco a4 7)] 25 (0, 0)) (kU_ BK376.out)) : gb376 ≠ gb384)) ((by rw [hg]; exact Nat.ne_of_gt (blk_lt (g := gb376) (o := .cells #[.int .u64 (bco a4 0), .int .u64 (bco a4 1), .int .u64 (bco a4 2), .int .u64 (bco a4 3), .int .u64 (bco a4 4), .int .u64 (bco a4 5), .int .u64 (bco a4 6), .int .u64 (bco a4 7)] 25 (0, 0)) (kU_ BK376.out)) : gb384 ≠ gb376)) ((by rw [hg]; exact Nat.ne_of_lt (blk_lt (g := gb381) (o := .cells #[.int .u64 (bco t380 0), .int .u64 (bco t380 1), .int .u64 (bco t380 2), .int .u64 (bco t380 3), .int .u64 (bco t380 4), .int .u64 (bco t380 5), .int .u64 (bco t380 6), .int .u64 (bco t380 7)] 25 (0, 0)) (kU_ BK381.out)) : gb381 ≠ gb384)) ((by rw [hg]; exact Nat.ne_of_gt (blk_lt (g := gb381) (o := .cells #[.int .u64 (bco t380 0), .int .u64 (bco t380 1), .int .u64 (bco t380 2), .int .u64 (bco t380 3), .int .u64 (bco t380 4), .int .u64 (bco t380 5), .int .u64 (bco t380 6), .int .u64 (bco t380 7)] 25 (0, 0)) (kU_ BK381.out)) : gb384 ≠ gb381)) ?_
          clear BK375 BK376 BK381 HB
          intro BK375 BK376 BK381 HB BK384 GW384 GE384 NB375_384 NB384_375 NB376_384 NB384_376 NB381_384 NB384_381
          clear hb hbox hg
          refine hK.out _ _ ⟨bc0_ BK376.out, bc1_ BK376.out, bc2_ BK376.out, (blk_cell BK376.out 3).trans rfl, (blk_cell BK376.out 4).trans rfl, (blk_cell BK376.out 5).trans rfl, (blk_cell BK376.out 6).trans rfl, (blk_cell BK376.out 7).trans rfl⟩ (fun hHeld => ?_)
          clear hK K
          refine norm_ (a' := ?_) ?_ ?_
          rotate_left
          ·show Act.put _ (some 14) _ = _
           simp only [Act.put, s1_, s2_, s3_, i64_w, i32_w]
           rfl
          exact norm_ (by simp only [putAll, Act.put, List.setIfInBounds_toArray, List.set_cons_zero, List.set_cons_succ]) (hCont (gb384) _ ⟨hHeld, (kU_ BK375.out), (kU_ BK376.out), (kU_ BK381.out), (kU_ BK384.out), GW384.out, GE384.out, NB375_384.out, NB384_375.out, NB376_384.out, NB384_376.out, NB381_384.out, NB384_381.out, sU_⟩)
         skip
         refine box_step ?hg (N := 14) ?hd (cs := #[.int .u64 0, .int .u64 0, .int .u64 0, .int .u64 0, .int .u64 0, .int .u64 0, .int .u64 0, .int .u64 0]) (t := 25) ?hr ?_; (case hd => rfl); (case hg => rfl); (case hr => first | (go_simp; done) | (go_simp; rfl))
         intro gb384 hg w38 hbox hb
         refine nx13_ (blk_below (g := gb375) (o := .cells #[.int .u64 (bco a3 0), .int .u64 (bco a3 1), .int .u64 (bco a3 2), .int .u64 (bco a3 3), .int .u64 (bco a3 4), .int .u64 (bco a3 5), .int .u64 (bco a3 6), .int .u64 (bco a3 7)] 25 (0, 0)) (kU_ BK375.out) hb) (blk_below (g := gb376) (o := .cells #[.int .u64 (bco a4 0), .int .u64 (bco a4 1), .int .u64 (bco a4 2), .int .u64 (bco a4 3), .int .u64 (bco a4 4), .int .u64 (bco a4 5), .int .u64 (bco a4 6), .int .u64 (bco a4 7)] 25 (0, 0)) (kU_ BK376.out) hb) (blk_below (g := gb381) (o := .cells #[.int .u64 (bco t380 0), .int .u64 (bco t380 1), .int .u64 (bco t380 2), .int .u64 (bco t380 3), .int .u64 (bco t380 4), .int .u64 (bco t380 5), .int .u64 (bco t380 6), .int .u64 (bco t380 7)] 25 (0, 0)) (kU_ BK381.out) hb) (below_step sU_ hb) (hbox) ((hs_ hg (below_size sU_) : w.heap.size ≤ gb384)) ((hs_ hg (below_size sU_) : w.heap.size ≤ gb384)) ((by rw [hg]; exact Nat.ne_of_lt (blk_lt (g := gb375) (o := .cells #[.int .u64 (bco a3 0), .int .u64 (bco a3 1), .int .u64 (bco a3 2), .int .u64 (bco a3 3), .int .u64 (bco a3 4), .int .u64 (bco a3 5), .int .u64 (bco a3 6), .int .u64 (bco a3 7)] 25 (0, 0)) (kU_ BK375.out)) : gb375 ≠ gb384)) ((by rw [hg]; exact Nat.ne_of_gt (blk_lt (g := gb375) (o := .cells #[.int .u64 (bco a3 0), .int .u64 (bco a3 1), .int .u64 (bco a3 2), .int .u64 (bco a3 3), .int .u64 (bco a3 4), .int .u64 (bco a3 5), .int .u64 (bco a3 6), .int .u64 (bco a3 7)] 25 (0, 0)) (kU_ BK375.out)) : gb384 ≠ gb375)) ((by rw [hg]; exact Nat.ne_of_lt (blk_lt (g := gb376) (o := .cells #[.int .u64 (bco a4 0), .int .u64 (bco a4 1), .int .u64 (bco a4 2), .int .u64 (bco a4 3), .int .u64 (bco a4 4), .int .u64 (bco a4 5), .int .u64 (bco a4 6), .int .u64 (bco a4 7)] 25 (0, 0)) (kU_ BK376.out)) : gb376 ≠ gb384)) ((by rw [hg]; exact Nat.ne_of_gt (blk_lt (g := gb376) (o := .cells #[.int .u64 (bco a4 0), .int .u64 (bco a4 1), .int .u64 (bco a4 2), .int .u64 (bco a4 3), .int .u64 (bco a4 4), .int .u64 (bco a4 5), .int .u64 (bco a4 6), .int .u64 (bco a4 7)] 25 (0, 0)) (kU_ BK376.out)) : gb384 ≠ gb376)) ((by rw [hg]; exact Nat.ne_of_lt (blk_lt (g := gb381) (o := .cells #[.int .u64 (bco t380 0), .int .u64 (bco t380 1), .int .u64 (bco t380 2), .int .u64 (bco t380 3), .int .u64 (bco t380 4), .int .u64 (bco t380 5), .int .u64 (bco t380 6), .int .u64 (bco t380 7)] 25 (0, 0)) (kU_ BK381.out)) : gb381 ≠ gb384)) ((by rw [hg]; exact Nat.ne_of_gt (blk_lt (g := gb381) (o := .cells #[.int .u64 (bco t380 0), .int .u64 (bco t380 1), .int .u64 (bco t380 2), .int .u64 (bco t380 3), .int .u64 (bco t380 4), .int .u64 (bco t380 5), .int .u64 (bco t380 6), .int .u64 (bco t380 7)] 25 (0, 0)) (kU_ BK381.out)) : gb384 ≠ gb381)) ?_
         clear BK375 BK376 BK381 HB
         intro BK375 BK376 BK381 HB BK384 GW384 GE384 NB375_384 NB384_375 NB376_384 NB384_376 NB381_384 NB384_381
         clear hb hbox hg
         refine hK.out _ _ ⟨bc0_ BK376.out, bc1_ BK376.out, bc2_ BK376.out, (blk_cell BK376.out 3).trans rfl, (blk_cell BK376.out 4).trans rfl, (blk_cell BK376.out 5).trans rfl, (blk_cell BK376.out 6).trans rfl, (blk_cell BK376.out 7).trans rfl⟩ (fun hHeld => ?_)
         clear hK K
         refine norm_ (a' := ?_) ?_ ?_
         rotate_left
         ·show Act.put _ (some 14) _ = _
          simp only [Act.put, s1_, s2_, s3_, i64_w, i32_w]
          rfl
         refine oq_ 6 43 9 255 HT_.out fun K hK => ?_
         refine gs_ Tryd.func23 #[.agg #[.int .i64 (wrap64 (Int.tmod a0 2)), .int .i64 3, .int .u64 t382], .slice (some ⟨gb376, 0, none⟩) [(bco a4 0), (bco a4 1), (bco a4 2), (bco a4 3), (bco a4 4), (bco a4 5), (bco a4 6), (bco a4 7)].length 8, .int .i64 0] ?_
         with_reducible refine (code_Local.calls kj15 (wrap64 (Int.tmod a0 2)) 3 t382 _ _ [(bco a4 0), (bco a4 1), (bco a4 2), (bco a4 3), (bco a4 4), (bco a4 5), (bco a4 6), (bco a4 7)] 0 t383 _ ?side1 ?side2 ?side3 A21.out).mono ?_
         (case side1 => repeat (first | with_reducible exact HG.out | with_reducible exact (Fld.below HG.out HB.out) | exact (Fld.below HG.out sU_) | (with_reducible refine Fld.alloc ?_ _) | (with_reducible refine Fld.drewN ?_ _) | (with_reducible refine Fld.drew ?_)))
         (case side2 => exact (Arr.C (l := [(bco a4 0), (bco a4 1), (bco a4 2), (bco a4 3), (bco a4 4), (bco a4 5), (bco a4 6), (bco a4 7)]) (t := 25) (show Arr _ _ _ _ from (kU_ BK376.out)) (show 8 ≤ 9223372036854775807 by decide)))
         (case side3 => exact Nat.le_refl 8)
         rintro e w39 ⟨rfl, hb⟩
         refine ⟨_, rfl, ?_⟩
         refine nx5_ (blk_below (g := gb375) (o := .cells #[.int .u64 (bco a3 0), .int .u64 (bco a3 1), .int .u64 (bco a3 2), .int .u64 (bco a3 3), .int .u64 (bco a3 4), .int .u64 (bco a3 5), .int .u64 (bco a3 6), .int .u64 (bco a3 7)] 25 (0, 0)) (kU_ BK375.out) hb) (blk_below (g := gb376) (o := .cells #[.int .u64 (bco a4 0), .int .u64 (bco a4 1), .int .u64 (bco a4 2), .int .u64 (bco a4 3), .int .u64 (bco a4 4), .int .u64 (bco a4 5), .int .u64 (bco a4 6), .int .u64 (bco a4 7)] 25 (0, 0)) (kU_ BK376.out) hb) (blk_below (g := gb381) (o := .cells #[.int .u64 (bco t380 0), .int .u64 (bco t380 1), .int .u64 (bco t380 2), .int .u64 (bco t380 3), .int .u64 (bco t380 4), .int .u64 (bco t380 5), .int .u64 (bco t380 6), .int .u64 (bco t380 7)] 25 (0, 0)) (kU_ BK381.out) hb) (blk_below (kU_ BK384.out) hb) (below_step sU_ hb) ?_
         clear BK375 BK376 BK381 BK384 HB
         intro BK375 BK376 BK381 BK384 HB
         (try clear hb)
         (try clear hb2)
         (try clear hk)
         (try clear hi)
         refine hK.out _ _ ⟨bc0_ BK376.out, bc1_ BK376.out, bc2_ BK376.out, (blk_cell BK376.out 3).trans rfl, (blk_cell BK376.out 4).trans rfl, (blk_cell BK376.out 5).trans rfl, (blk_cell BK376.out 6).trans rfl, (blk_cell BK376.out 7).trans rfl⟩ (fun hHeld => ?_)
         clear hK K
         refine norm_ (a' := ?_) ?_ ?_
         rotate_left
         ·show Act.put _ (some 43) _ = _
          simp only [Act.put, s1_, s2_, s3_, i64_w, i32_w]
          rfl
         exact norm_ (by simp only [putAll, Act.put, List.setIfInBounds_toArray, List.set_cons_zero, List.set_cons_succ]) (hCont (gb384) _ ⟨hHeld, (kU_ BK375.out), (kU_ BK376.out), (kU_ BK381.out), (kU_ BK384.out), GW384.out, GE384.out, NB375_384.out, NB384_375.out, NB376_384.out, NB384_376.out, NB381_384.out, NB384_381.out, sU_⟩)
        skip
        refine box_step ?hg (N := 14) ?hd (cs := #[.int .u64 0, .int .u64 0, .int .u64 0, .int .u64 0, .int .u64 0, .int .u64 0, .int .u64 0, .int .u64 0]) (t := 25) ?hr ?_; (case hd => rfl); (case hg => rfl); (case hr => first | (go_simp; done) | (go_simp; rfl))
        intro gb384 hg w37 hbox hb
        refine nx13_ (blk_below (g := gb375) (o := .cells #[.int .u64 (bco a3 0), .int .u64 (bco a3 1), .int .u64 (bco a3 2), .int .u64 (bco a3 3), .int .u64 (bco a3 4), .int .u64 (bco a3 5), .int .u64 (bco a3 6), .int .u64 (bco a3 7)] 25 (0, 0)) (kU_ BK375.out) hb) (blk_below (g := gb376) (o := .cells #[.int .u64 (bco a4 0), .int .u64 (bco a4 1), .int .u64 (bco a4 2), .int .u64 (bco a4 3), .int .u64 (bco a4 4), .int .u64 (bco a4 5), .int .u64 (bco a4 6), .int .u64 (bco a4 7)] 25 (0, 0)) (kU_ BK376.out) hb) (blk_below (g := gb381) (o := .cells #[.int .u64 (bco t380 0), .int .u64 (bco t380 1), .int .u64 (bco t380 2), .int .u64 (bco t380 3), .int .u64 (bco t380 4), .int .u64 (bco t380 5), .int .u64 (bco t380 6), .int .u64 (bco t380 7)] 25 (0, 0)) (kU_ BK381.out) hb) (below_step sU_ hb) (hbox) ((hs_ hg (below_size sU_) : w.heap.size ≤ gb384)) ((hs_ hg (below_size sU_) : w.heap.size ≤ gb384)) ((by rw [hg]; exact Nat.ne_of_lt (blk_lt (g := gb375) (o := .cells #[.int .u64 (bco a3 0), .int .u64 (bco a3 1), .int .u64 (bco a3 2), .int .u64 (bco a3 3), .int .u64 (bco a3 4), .int .u64 (bco a3 5), .int .u64 (bco a3 6), .int .u64 (bco a3 7)] 25 (0, 0)) (kU_ BK375.out)) : gb375 ≠ gb384)) ((by rw [hg]; exact Nat.ne_of_gt (blk_lt (g := gb375) (o := .cells #[.int .u64 (bco a3 0), .int .u64 (bco a3 1), .int .u64 (bco a3 2), .int .u64 (bco a3 3), .int .u64 (bco a3 4), .int .u64 (bco a3 5), .int .u64 (bco a3 6), .int .u64 (bco a3 7)] 25 (0, 0)) (kU_ BK375.out)) : gb384 ≠ gb375)) ((by rw [hg]; exact Nat.ne_of_lt (blk_lt (g := gb376) (o := .cells #[.int .u64 (bco a4 0), .int .u64 (bco a4 1), .int .u64 (bco a4 2), .int .u64 (bco a4 3), .int .u64 (bco a4 4), .int .u64 (bco a4 5), .int .u64 (bco a4 6), .int .u64 (bco a4 7)] 25 (0, 0)) (kU_ BK376.out)) : gb376 ≠ gb384)) ((by rw [hg]; exact Nat.ne_of_gt (blk_lt (g := gb376) (o := .cells #[.int .u64 (bco a4 0), .int .u64 (bco a4 1), .int .u64 (bco a4 2), .int .u64 (bco a4 3), .int .u64 (bco a4 4), .int .u64 (bco a4 5), .int .u64 (bco a4 6), .int .u64 (bco a4 7)] 25 (0, 0)) (kU_ BK376.out)) : gb384 ≠ gb376)) ((by rw [hg]; exact Nat.ne_of_lt (blk_lt (g := gb381) (o := .cells #[.int .u64 (bco t380 0), .int .u64 (bco t380 1), .int .u64 (bco t380 2), .int .u64 (bco t380 3), .int .u64 (bco t380 4), .int .u64 (bco t380 5), .int .u64 (bco t380 6), .int .u64 (bco t380 7)] 25 (0, 0)) (kU_ BK381.out)) : gb381 ≠ gb384)) ((by rw [hg]; exact Nat.ne_of_gt (blk_lt (g := gb381) (o := .cells #[.int .u64 (bco t380 0), .int .u64 (bco t380 1), .int .u64 (bco t380 2), .int .u64 (bco t380 3), .int .u64 (bco t380 4), .int .u64 (bco t380 5), .int .u64 (bco t380 6), .int .u64 (bco t380 7)] 25 (0, 0)) (kU_ BK381.out)) : gb384 ≠ gb381)) ?_
        clear BK375 BK376 BK381 HB
        intro BK375 BK376 BK381 HB BK384 GW384 GE384 NB375_384 NB384_375 NB376_384 NB384_376 NB381_384 NB384_381
        clear hb hbox hg
        refine hK.out _ _ ⟨bc0_ BK376.out, bc1_ BK376.out, bc2_ BK376.out, (blk_cell BK376.out 3).trans rfl, (blk_cell BK376.out 4).trans rfl, (blk_cell BK376.out 5).trans rfl, (blk_cell BK376.out 6).trans rfl, (blk_cell BK376.out 7).trans rfl⟩ (fun hHeld => ?_)
        clear hK K
        refine norm_ (a' := ?_) ?_ ?_
        rotate_left
        ·show Act.put _ (some 14) _ = _
         simp only [Act.put, s1_, s2_, s3_, i64_w, i32_w]
         rfl
        refine oq_ 3 40 9 175 HT_.out fun K hK => ?_
        refine gs_ Tryd.func22 #[.int .i64 (wrap64 (Int.tmod a0 2)), .int .u64 x2_12] ?_
        with_reducible refine (field_Reduce.calls (wrap64 (Int.tmod a0 2)) x2_12 t382 _ ?side1 A20.out).mono ?_
        (case side1 => repeat (first | with_reducible exact HG.out | with_reducible exact (Fld.below HG.out HB.out) | exact (Fld.below HG.out sU_) | (with_reducible refine Fld.alloc ?_ _) | (with_reducible refine Fld.drewN ?_ _) | (with_reducible refine Fld.drew ?_)))
        rintro e w38 ⟨rfl, hb⟩
        refine ⟨_, rfl, ?_⟩
        refine nx5_ (blk_below (g := gb375) (o := .cells #[.int .u64 (bco a3 0), .int .u64 (bco a3 1), .int .u64 (bco a3 2), .int .u64 (bco a3 3), .int .u64 (bco a3 4), .int .u64 (bco a3 5), .int .u64 (bco a3 6), .int .u64 (bco a3 7)] 25 (0, 0)) (kU_ BK375.out) hb) (blk_below (g := gb376) (o := .cells #[.int .u64 (bco a4 0), .int .u64 (bco a4 1), .int .u64 (bco a4 2), .int .u64 (bco a4 3), .int .u64 (bco a4 4), .int .u64 (bco a4 5), .int .u64 (bco a4 6), .int .u64 (bco a4 7)] 25 (0, 0)) (kU_ BK376.out) hb) (blk_below (g := gb381) (o := .cells #[.int .u64 (bco t380 0), .int .u64 (bco t380 1), .int .u64 (bco t380 2), .int .u64 (bco t380 3), .int .u64 (bco t380 4), .int .u64 (bco t380 5), .int .u64 (bco t380 6), .int .u64 (bco t380 7)] 25 (0, 0)) (kU_ BK381.out) hb) (blk_below (kU_ BK384.out) hb) (below_step sU_ hb) ?_
        clear BK375 BK376 BK381 BK384 HB
        intro BK375 BK376 BK381 BK384 HB
        (try clear hb)
        (try clear hb2)
        (try clear hk)
        (try clear hi)
        refine hK.out _ _ ⟨bc0_ BK376.out, bc1_ BK376.out, bc2_ BK376.out, (blk_cell BK376.out 3).trans rfl, (blk_cell BK376.out 4).trans rfl, (blk_cell BK376.out 5).trans rfl, (blk_cell BK376.out 6).trans rfl, (blk_cell BK376.out 7).trans rfl⟩ (fun hHeld => ?_)
        clear hK K
        refine norm_ (a' := ?_) ?_ ?_
        rotate_left
        ·show Act.put _ (some 40) _ = _
         simp only [Act.put, s1_, s2_, s3_, i64_w, i32_w]
         rfl
        refine pq_ 4 41 9 191 HT_.out ?_
        refine oq_ 6 43 9 255 HT_.out fun K hK => ?_
        refine gs_ Tryd.func23 #[.agg #[.int .i64 (wrap64 (Int.tmod a0 2)), .int .i64 3, .int .u64 t382], .slice (some ⟨gb376, 0, none⟩) [(bco a4 0), (bco a4 1), (bco a4 2), (bco a4 3), (bco a4 4), (bco a4 5), (bco a4 6), (bco a4 7)].length 8, .int .i64 0] ?_
        with_reducible refine (code_Local.calls kj15 (wrap64 (Int.tmod a0 2)) 3 t382 _ _ [(bco a4 0), (bco a4 1), (bco a4 2), (bco a4 3), (bco a4 4), (bco a4 5), (bco a4 6), (bco a4 7)] 0 t383 _ ?side1 ?side2 ?side3 A21.out).mono ?_
        (case side1 => repeat (first | with_reducible exact HG.out | with_reducible exact (Fld.below HG.out HB.out) | exact (Fld.below HG.out sU_) | (with_reducible refine Fld.alloc ?_ _) | (with_reducible refine Fld.drewN ?_ _) | (with_reducible refine Fld.drew ?_)))
        (case side2 => exact (Arr.C (l := [(bco a4 0), (bco a4 1), (bco a4 2), (bco a4 3), (bco a4 4), (bco a4 5), (bco a4 6), (bco a4 7)]) (t := 25) (show Arr _ _ _ _ from (kU_ BK376.out)) (show 8 ≤ 9223372036854775807 by decide)))
        (case side3 => exact Nat.le_refl 8)
        rintro e w39 ⟨rfl, hb⟩
        refine ⟨_, rfl, ?_⟩
        refine nx5_ (blk_below (g := gb375) (o := .cells #[.int .u64 (bco a3 0), .int .u64 (bco a3 1), .int .u64 (bco a3 2), .int .u64 (bco a3 3), .int .u64 (bco a3 4), .int .u64 (bco a3 5), .int .u64 (bco a3 6), .int .u64 (bco a3 7)] 25 (0, 0)) (kU_ BK375.out) hb) (blk_below (g := gb376) (o := .cells #[.int .u64 (bco a4 0), .int .u64 (bco a4 1), .int .u64 (bco a4 2), .int .u64 (bco a4 3), .int .u64 (bco a4 4), .int .u64 (bco a4 5), .int .u64 (bco a4 6), .int .u64 (bco a4 7)] 25 (0, 0)) (kU_ BK376.out) hb) (blk_below (g := gb381) (o := .cells #[.int .u64 (bco t380 0), .int .u64 (bco t380 1), .int .u64 (bco t380 2), .int .u64 (bco t380 3), .int .u64 (bco t380 4), .int .u64 (bco t380 5), .int .u64 (bco t380 6), .int .u64 (bco t380 7)] 25 (0, 0)) (kU_ BK381.out) hb) (blk_below (kU_ BK384.out) hb) (below_step sU_ hb) ?_
        clear BK375 BK376 BK381 BK384 HB
        intro BK375 BK376 BK381 BK384 HB
        (try clear hb)
        (try clear hb2)
        (try clear hk)
        (try clear hi)
        refine hK.out _ _ ⟨bc0_ BK376.out, bc1_ BK376.out, bc2_ BK376.out, (blk_cell BK376.out 3).trans rfl, (blk_cell BK376.out 4).trans rfl, (blk_cell BK376.out 5).trans rfl, (blk_cell BK376.out 6).trans rfl, (blk_cell BK376.out 7).trans rfl⟩ (fun hHeld => ?_)
        clear hK K
        refine norm_ (a' := ?_) ?_ ?_
        rotate_left
        ·show Act.put _ (some 43) _ = _
         simp only [Act.put, s1_, s2_, s3_, i64_w, i32_w]
         rfl
        exact norm_ (by simp only [putAll, Act.put, List.setIfInBounds_toArray, List.set_cons_zero, List.set_cons_succ]) (hCont (gb384) _ ⟨hHeld, (kU_ BK375.out), (kU_ BK376.out), (kU_ BK381.out), (kU_ BK384.out), GW384.out, GE384.out, NB375_384.out, NB384_375.out, NB376_384.out, NB384_376.out, NB381_384.out, NB384_381.out, sU_⟩)
       rintro gb384 w40 ⟨hS_, h0_, h1_, h2_, h3_, h4_, h5_, h6_, h7_, h8_, h9_, h10_, h11_, h12_⟩
       have n0_ : Aside0 (w40.heap[gb375]? = some (.cells #[.int .u64 (bco a3 0), .int .u64 (bco a3 1), .int .u64 (bco a3 2), .int .u64 (bco a3 3), .int .u64 (bco a3 4), .int .u64 (bco a3 5), .int .u64 (bco a3 6), .int .u64 (bco a3 7)] 25 (0, 0))) := ⟨h0_⟩
       have n1_ : Aside0 (w40.heap[gb376]? = some (.cells #[.int .u64 (bco a4 0), .int .u64 (bco a4 1), .int .u64 (bco a4 2), .int .u64 (bco a4 3), .int .u64 (bco a4 4), .int .u64 (bco a4 5), .int .u64 (bco a4 6), .int .u64 (bco a4 7)] 25 (0, 0))) := ⟨h1_⟩
       have n2_ : Aside0 (w40.heap[gb381]? = some (.cells #[.int .u64 (bco t380 0), .int .u64 (bco t380 1), .int .u64 (bco t380 2), .int .u64 (bco t380 3), .int .u64 (bco t380 4), .int .u64 (bco t380 5), .int .u64 (bco t380 6), .int .u64 (bco t380 7)] 25 (0, 0))) := ⟨h2_⟩
       have n3_ : Aside0 (w40.heap[gb384]? = some (.cells #[.int .u64 0, .int .u64 0, .int .u64 0, .int .u64 0, .int .u64 0, .int .u64 0, .int .u64 0, .int .u64 0] 25 (0, 0))) := ⟨h3_⟩
       have n4_ : Aside0 (w.heap.size ≤ gb384) := ⟨h4_⟩
       have n5_ : Aside0 (w.heap.size ≤ gb384) := ⟨h5_⟩
       have n6_ : Aside0 (gb375 ≠ gb384) := ⟨h6_⟩
       have n7_ : Aside0 (gb384 ≠ gb375) := ⟨h7_⟩
       have n8_ : Aside0 (gb376 ≠ gb384) := ⟨h8_⟩
       have n9_ : Aside0 (gb384 ≠ gb376) := ⟨h9_⟩
       have n10_ : Aside0 (gb381 ≠ gb384) := ⟨h10_⟩
       have n11_ : Aside0 (gb384 ≠ gb381) := ⟨h11_⟩
       have n12_ : Aside0 (Below w.heap.size w w40) := ⟨h12_⟩
       clear BK375
       clear BK376
       clear BK381
       clear HB
       clear h0_ h1_ h2_ h3_ h4_ h5_ h6_ h7_ h8_ h9_ h10_ h11_ h12_
       have BK375 := n0_
       have BK376 := n1_
       have BK381 := n2_
       have BK384 := n3_
       have GW384 := n4_
       have GE384 := n5_
       have NB375_384 := n6_
       have NB384_375 := n7_
       have NB376_384 := n8_
       have NB384_376 := n9_
       have NB381_384 := n10_
       have NB384_381 := n11_
       have HB := n12_
       clear n0_ n1_ n2_ n3_ n4_ n5_ n6_ n7_ n8_ n9_ n10_ n11_ n12_
       have hHeld : w40.cell? ⟨gb376, 0, none⟩ = some (.int .u64 (bco a4 0)) ∧ w40.cell? ⟨gb376, 1, none⟩ = some (.int .u64 (bco a4 1)) ∧ w40.cell? ⟨gb376, 2, none⟩ = some (.int .u64 (bco a4 2)) ∧ w40.cell? ⟨gb376, 3, none⟩ = some (.int .u64 (bco a4 3)) ∧ w40.cell? ⟨gb376, 4, none⟩ = some (.int .u64 (bco a4 4)) ∧ w40.cell? ⟨gb376, 5, none⟩ = some (.int .u64 (bco a4 5)) ∧ w40.cell? ⟨gb376, 6, none⟩ = some (.int .u64 (bco a4 6)) ∧ w40.cell? ⟨gb376, 7, none⟩ = some (.int .u64 (bco a4 7)) := hS_
       refine norm_ (a' := ?_) ?_ ?_
       rotate_left
       ·simp only [putAll, Act.put, List.setIfInBounds_toArray, List.set_cons_zero, List.set_cons_succ]
        rfl
       refine one_ (i := 8) (N := none) (bv 9 511) rfl rfl (one_of HT_.out (by kernel_rfl)) (by decide) (fun K hK => ?_)
       have hs41 : w40.cell? ⟨gb384, 0, none⟩ = some (.int .u64 0) := bc0_ BK384.out
       have hfs41 := blk_frozen BK384.out 0
       have hns41_0 := NB375_384.out
       have hns41_1 := NB376_384.out
       have hns41_2 := NB381_384.out
       have hms41_0 := NB384_375.out
       have hms41_1 := NB384_376.out
       have hms41_2 := NB384_381.out
       have hs42 : w40.cell? ⟨gb384, 1, none⟩ = some (.int .u64 0) := bc1_ BK384.out
       have hfs42 := blk_frozen BK384.out 1
       have hns42_0 := NB375_384.out
       have hns42_1 := NB376_384.out
       have hns42_2 := NB381_384.out
       have hms42_0 := NB384_375.out
       have hms42_1 := NB384_376.out
       have hms42_2 := NB384_381.out
       have hs43 : w40.cell? ⟨gb384, 2, none⟩ = some (.int .u64 0) := bc2_ BK384.out
       have hfs43 := blk_frozen BK384.out 2
       have hns43_0 := NB375_384.out
       have hns43_1 := NB376_384.out
       have hns43_2 := NB381_384.out
       have hms43_0 := NB384_375.out
       have hms43_1 := NB384_376.out
       have hms43_2 := NB384_381.out
       have hs44 : w40.cell? ⟨gb384, 3, none⟩ = some (.int .u64 0) := (blk_cell BK384.out 3).trans rfl
       have hfs44 := blk_frozen BK384.out 3
       have hns44_0 := NB375_384.out
       have hns44_1 := NB376_384.out
       have hns44_2 := NB381_384.out
       have hms44_0 := NB384_375.out
       have hms44_1 := NB384_376.out
       have hms44_2 := NB384_381.out
       have hs45 : w40.cell? ⟨gb384, 4, none⟩ = some (.int .u64 0) := (blk_cell BK384.out 4).trans rfl
       have hfs45 := blk_frozen BK384.out 4
       have hns45_0 := NB375_384.out
       have hns45_1 := NB376_384.out
       have hns45_2 := NB381_384.out
       have hms45_0 := NB384_375.out
       have hms45_1 := NB384_376.out
       have hms45_2 := NB384_381.out
       have hs46 : w40.cell? ⟨gb384, 5, none⟩ = some (.int .u64 0) := (blk_cell BK384.out 5).trans rfl
       have hfs46 := blk_frozen BK384.out 5
       have hns46_0 := NB375_384.out
       have hns46_1 := NB376_384.out
       have hns46_2 := NB381_384.out
       have hms46_0 := NB384_375.out
       have hms46_1 := NB384_376.out
       have hms46_2 := NB384_381.out
       have hs47 : w40.cell? ⟨gb384, 6, none⟩ = some (.int .u64 0) := (blk_cell BK384.out 6).trans rfl
       have hfs47 := blk_frozen BK384.out 6
       have hns47_0 := NB375_384.out
       have hns47_1 := NB376_384.out
       have hns47_2 := NB381_384.out
       have hms47_0 := NB384_375.out
       have hms47_1 := NB384_376.out
       have hms47_2 := NB384_381.out
       have hs48 : w40.cell? ⟨gb384, 7, none⟩ = some (.int .u64 0) := (blk_cell BK384.out 7).trans rfl
       have hfs48 := blk_frozen BK384.out 7
       have hns48_0 := NB375_384.out
       have hns48_1 := NB376_384.out
       have hns48_2 := NB381_384.out
       have hms48_0 := NB384_375.out
       have hms48_1 := NB384_376.out
       have hms48_2 := NB384_381.out
       refine skip_ (w1 := ?_) (by rfl) rfl ?_ ?_
       rotate_left
       ·go_simp
        rfl
       refine hK.out _ _ ⟨((cell_far (p := ⟨gb384, _, none⟩) NB376_384.out _).trans (((cell_far (p := ⟨gb384, _, none⟩) NB376_384.out _).trans (((cell_far (p := ⟨gb384, _, none⟩) NB376_384.out _).trans (((cell_far (p := ⟨gb384, _, none⟩) NB376_384.out _).trans (((cell_far (p := ⟨gb384, _, none⟩) NB376_384.out _).trans (((cell_far (p := ⟨gb384, _, none⟩) NB376_384.out _).trans (((cell_far (p := ⟨gb384, _, none⟩) NB376_384.out _).trans (((cell_far (p := ⟨gb384, _, none⟩) NB376_384.out _).trans (hHeld.1)))))))))))))))), ((cell_far (p := ⟨gb384, _, none⟩) NB376_384.out _).trans (((cell_far (p := ⟨gb384, _, none⟩) NB376_384.out _).trans (((cell_far (p := ⟨gb384, _, none⟩) NB376_384.out _).trans (((cell_far (p := ⟨gb384, _, none⟩) NB376_384.out _).trans (((cell_far (p := ⟨gb384, _, none⟩) NB376_384.out _).trans (((cell_far (p := ⟨gb384, _, none⟩) NB376_384.out _).trans (((cell_far (p := ⟨gb384, _, none⟩) NB376_384.out _).trans (((cell_far (p := ⟨gb384, _, none⟩) NB376_384.out _).trans (hHeld.2.1)))))))))))))))), ((cell_far (p := ⟨gb384, _, none⟩) NB376_384.out _).trans (((cell_far (p := ⟨gb384, _, none⟩) NB376_384.out _).trans (((cell_far (p := ⟨gb384, _, none⟩) NB376_384.out _).trans (((cell_far (p := ⟨gb384, _, none⟩) NB376_384.out _).trans (((cell_far (p := ⟨gb384, _, none⟩) NB376_384.out _).trans (((cell_far (p := ⟨gb384, _, none⟩) NB376_384.out _).trans (((cell_far (p := ⟨gb384, _, none⟩) NB376_384.out _).trans (((cell_far (p := ⟨gb384, _, none⟩) NB376_384.out _).trans (hHeld.2.2.1)))))))))))))))), ((cell_far (p := ⟨gb384, _, none⟩) NB376_384.out _).trans (((cell_far (p := ⟨gb384, _, none⟩) NB376_384.out _).trans (((cell_far (p := ⟨gb384, _, none⟩) NB376_384.out _).trans (((cell_far (p := ⟨gb384, _, none⟩) NB376_384.out _).trans (((cell_far (p := ⟨gb384, _, none⟩) NB376_384.out _).trans (((cell_far (p := ⟨gb384, _, none⟩) NB376_384.out _).trans (((cell_far (p := ⟨gb384, _, none⟩) NB376_384.out _).trans (((cell_far (p := ⟨gb384, _, none⟩) NB376_384.out _).trans (hHeld.2.2.2.1)))))))))))))))), ((cell_far (p := ⟨gb384, _, none⟩) NB376_384.out _).trans (((cell_far (p := ⟨gb384, _, none⟩) NB376_384.out _).trans (((cell_far (p := ⟨gb384, _, none⟩) NB376_384.out _).trans (((cell_far (p := ⟨gb384, _, none⟩) NB376_384.out _).trans (((cell_far (p := ⟨gb384, _, none⟩) NB376_384.out _).trans (((cell_far (p := ⟨gb384, _, none⟩) NB376_384.out _).trans (((cell_far (p := ⟨gb384, _, none⟩) NB376_384.out _).trans (((cell_far (p := ⟨gb384, _, none⟩) NB376_384.out _).trans (hHeld.2.2.2.2.1)))))))))))))))), ((cell_far (p := ⟨gb384, _, none⟩) NB376_384.out _).trans (((cell_far (p := ⟨gb384, _, none⟩) NB376_384.out _).trans (((cell_far (p := ⟨gb384, _, none⟩) NB376_384.out _).trans (((cell_far (p := ⟨gb384, _, none⟩) NB376_384.out _).trans (((cell_far (p := ⟨gb384, _, none⟩) NB376_384.out _).trans (((cell_far (p := ⟨gb384, _, none⟩) NB376_384.out _).trans (((cell_far (p := ⟨gb384, _, none⟩) NB376_384.out _).trans (((cell_far (p := ⟨gb384, _, none⟩) NB376_384.out _).trans (hHeld.2.2.2.2.2.1)))))))))))))))), ((cell_far (p := ⟨gb384, _, none⟩) NB376_384.out _).trans (((cell_far (p := ⟨gb384, _, none⟩) NB376_384.out _).trans (((cell_far (p := ⟨gb384, _, none⟩) NB376_384.out _).trans (((cell_far (p := ⟨gb384, _, none⟩) NB376_384.out _).trans (((cell_far (p := ⟨gb384, _, none⟩) NB376_384.out _).trans (((cell_far (p := ⟨gb384, _, none⟩) NB376_384.out _).trans (((cell_far (p := ⟨gb384, _, none⟩) NB376_384.out _).trans (((cell_far (p := ⟨gb384, _, none⟩) NB376_384.out _).trans (hHeld.2.2.2.2.2.2.1)))))))))))))))), ((cell_far (p := ⟨gb384, _, none⟩) NB376_384.out _).trans (((cell_far (p := ⟨gb384, _, none⟩) NB376_384.out _).trans (((cell_far (p := ⟨gb384, _, none⟩) NB376_384.out _).trans (((cell_far (p := ⟨gb384, _, none⟩) NB376_384.out _).trans (((cell_far (p := ⟨gb384, _, none⟩) NB376_384.out _).trans (((cell_far (p := ⟨gb384, _, none⟩) NB376_384.out _).trans (((cell_far (p := ⟨gb384, _, none⟩) NB376_384.out _).trans (((cell_far (p := ⟨gb384, _, none⟩) NB376_384.out _).trans (hHeld.2.2.2.2.2.2.2))))))))))))))))⟩ (fun hHeld => ?_)
       clear hK K
       refine done_ (done_of HT_.out (by kernel_rfl)) ?_
       try go_wp2
       go_loopg [15, 16] kj15 (fun kq v15 v16 w' => ∃ (x15_4 : Int) (x16_4 : Int), v15 = .int .i64 x15_4 ∧ v16 = .int .u64 x16_4 ∧ Aside0 (attestorlaw09_FoldApart.l0 kq x1_6 x2_12 (wrap64 (Int.tmod a0 2)) x12_15 x15_4 x16_4 (bco a3 0) (bco a3 1) (bco a3 2) (bco a3 3) (bco a3 4) (bco a3 5) (bco a3 6) (bco a3 7) (bco a4 0) (bco a4 1) (bco a4 2) (bco a4 3) (bco a4 4) (bco a4 5) (bco a4 6) (bco a4 7) (bco t380 0) (bco t380 1) (bco t380 2) (bco t380 3) (bco t380 4) (bco t380 5) (bco t380 6) (bco t380 7) (bco t383 0) (bco t383 1) (bco t383 2) (bco t383 3) (bco t383 4) (bco t383 5) (bco t383 6) (bco t383 7) = some r) ∧ Aside0 (kq ≤ kj15) ∧ Aside0 (w'.heap[gb375]? = some (.cells #[.int .u64 (bco a3 0), .int .u64 (bco a3 1), .int .u64 (bco a3 2), .int .u64 (bco a3 3), .int .u64 (bco a3 4), .int .u64 (bco a3 5), .int .u64 (bco a3 6), .int .u64 (bco a3 7)] 25 (0, 0))) ∧ Aside0 (w'.heap[gb376]? = some (.cells #[.int .u64 (bco a4 0), .int .u64 (bco a4 1), .int .u64 (bco a4 2), .int .u64 (bco a4 3), .int .u64 (bco a4 4), .int .u64 (bco a4 5), .int .u64 (bco a4 6), .int .u64 (bco a4 7)] 25 (0, 0))) ∧ Aside0 (w'.heap[gb381]? = some (.cells #[.int .u64 (bco t380 0), .int .u64 (bco t380 1), .int .u64 (bco t380 2), .int .u64 (bco t380 3), .int .u64 (bco t380 4), .int .u64 (bco t380 5), .int .u64 (bco t380 6), .int .u64 (bco t380 7)] 25 (0, 0))) ∧ Aside0 (w'.heap[gb384]? = some (.cells #[.int .u64 (bco t383 0), .int .u64 (bco t383 1), .int .u64 (bco t383 2), .int .u64 (bco t383 3), .int .u64 (bco t383 4), .int .u64 (bco t383 5), .int .u64 (bco t383 6), .int .u64 (bco t383 7)] 25 (0, 0))) ∧ Aside0 (Below w.heap.size w w'))
       case atStart => exact ⟨(0), (0), gb_, gb_, H', ⟨Nat.le_refl _⟩, ⟨by (with_reducible repeat (first | refine blk_drewN ?_ _ | refine blk_drew ?_ | refine blk_alloc ?_ _)); refine blk_far ?_ NB375_384.out _; (with_reducible repeat (first | refine blk_drewN ?_ _ | refine blk_drew ?_ | refine blk_alloc ?_ _)); refine blk_far ?_ NB375_384.out _; (with_reducible repeat (first | refine blk_drewN ?_ _ | refine blk_drew ?_ | refine blk_alloc ?_ _)); refine blk_far ?_ NB375_384.out _; (with_reducible repeat (first | refine blk_drewN ?_ _ | refine blk_drew ?_ | refine blk_alloc ?_ _)); refine blk_far ?_ NB375_384.out _; (with_reducible repeat (first | refine blk_drewN ?_ _ | refine blk_drew ?_ | refine blk_alloc ?_ _)); refine blk_far ?_ NB375_384.out _; (with_reducible repeat (first | refine blk_drewN ?_ _ | refine blk_drew ?_ | refine blk_alloc ?_ _)); refine blk_far ?_ NB375_384.out _; (with_reducible repeat (first | refine blk_drewN ?_ _ | refine blk_drew ?_ | refine blk_alloc ?_ _)); refine blk_far ?_ NB375_384.out _; (with_reducible repeat (first | refine blk_drewN ?_ _ | refine blk_drew ?_ | refine blk_alloc ?_ _)); refine blk_far ?_ NB375_384.out _; (with_reducible repeat (first | refine blk_drewN ?_ _ | refine blk_drew ?_ | refine blk_alloc ?_ _)); exact BK375.out⟩, ⟨by (with_reducible repeat (first | refine blk_drewN ?_ _ | refine blk_drew ?_ | refine blk_alloc ?_ _)); refine blk_far ?_ NB376_384.out _; (with_reducible repeat (first | refine blk_drewN ?_ _ | refine blk_drew ?_ | refine blk_alloc ?_ _)); refine blk_far ?_ NB376_384.out _; (with_reducible repeat (first | refine blk_drewN ?_ _ | refine blk_drew ?_ | refine blk_alloc ?_ _)); refine blk_far ?_ NB376_384.out _; (with_reducible repeat (first | refine blk_drewN ?_ _ | refine blk_drew ?_ | refine blk_alloc ?_ _)); refine blk_far ?_ NB376_384.out _; (with_reducible repeat (first | refine blk_drewN ?_ _ | refine blk_drew ?_ | refine blk_alloc ?_ _)); refine blk_far ?_ NB376_384.out _; (with_reducible repeat (first | refine blk_drewN ?_ _ | refine blk_drew ?_ | refine blk_alloc ?_ _)); refine blk_far ?_ NB376_384.out _; (with_reducible repeat (first | refine blk_drewN ?_ _ | refine blk_drew ?_ | refine blk_alloc ?_ _)); refine blk_far ?_ NB376_384.out _; (with_reducible repeat (first | refine blk_drewN ?_ _ | refine blk_drew ?_ | refine blk_alloc ?_ _)); refine blk_far ?_ NB376_384.out _; (with_reducible repeat (first | refine blk_drewN ?_ _ | refine blk_drew ?_ | refine blk_alloc ?_ _)); exact BK376.out⟩, ⟨by (with_reducible repeat (first | refine blk_drewN ?_ _ | refine blk_drew ?_ | refine blk_alloc ?_ _)); refine blk_far ?_ NB381_384.out _; (with_reducible repeat (first | refine blk_drewN ?_ _ | refine blk_drew ?_ | refine blk_alloc ?_ _)); refine blk_far ?_ NB381_384.out _; (with_reducible repeat (first | refine blk_drewN ?_ _ | refine blk_drew ?_ | refine blk_alloc ?_ _)); refine blk_far ?_ NB381_384.out _; (with_reducible repeat (first | refine blk_drewN ?_ _ | refine blk_drew ?_ | refine blk_alloc ?_ _)); refine blk_far ?_ NB381_384.out _; (with_reducible repeat (first | refine blk_drewN ?_ _ | refine blk_drew ?_ | refine blk_alloc ?_ _)); refine blk_far ?_ NB381_384.out _; (with_reducible repeat (first | refine blk_drewN ?_ _ | refine blk_drew ?_ | refine blk_alloc ?_ _)); refine blk_far ?_ NB381_384.out _; (with_reducible repeat (first | refine blk_drewN ?_ _ | refine blk_drew ?_ | refine blk_alloc ?_ _)); refine blk_far ?_ NB381_384.out _; (with_reducible repeat (first | refine blk_drewN ?_ _ | refine blk_drew ?_ | refine blk_alloc ?_ _)); refine blk_far ?_ NB381_384.out _; (with_reducible repeat (first | refine blk_drewN ?_ _ | refine blk_drew ?_ | refine blk_alloc ?_ _)); exact BK381.out⟩, ⟨by (with_reducible repeat (first | refine blk_drewN ?_ _ | refine blk_drew ?_ | refine blk_alloc ?_ _)); refine blk_put (cs := #[.int .u64 (bco t383 0), .int .u64 (bco t383 1), .int .u64 (bco t383 2), .int .u64 (bco t383 3), .int .u64 (bco t383 4), .int .u64 (bco t383 5), .int .u64 (bco t383 6), .int .u64 0]) ?_ 7 _ rfl; (with_reducible repeat (first | refine blk_drewN ?_ _ | refine blk_drew ?_ | refine blk_alloc ?_ _)); refine blk_put (cs := #[.int .u64 (bco t383 0), .int .u64 (bco t383 1), .int .u64 (bco t383 2), .int .u64 (bco t383 3), .int .u64 (bco t383 4), .int .u64 (bco t383 5), .int .u64 0, .int .u64 0]) ?_ 6 _ rfl; (with_reducible repeat (first | refine blk_drewN ?_ _ | refine blk_drew ?_ | refine blk_alloc ?_ _)); refine blk_put (cs := #[.int .u64 (bco t383 0), .int .u64 (bco t383 1), .int .u64 (bco t383 2), .int .u64 (bco t383 3), .int .u64 (bco t383 4), .int .u64 0, .int .u64 0, .int .u64 0]) ?_ 5 _ rfl; (with_reducible repeat (first | refine blk_drewN ?_ _ | refine blk_drew ?_ | refine blk_alloc ?_ _)); refine blk_put (cs := #[.int .u64 (bco t383 0), .int .u64 (bco t383 1), .int .u64 (bco t383 2), .int .u64 (bco t383 3), .int .u64 0, .int .u64 0, .int .u64 0, .int .u64 0]) ?_ 4 _ rfl; (with_reducible repeat (first | refine blk_drewN ?_ _ | refine blk_drew ?_ | refine blk_alloc ?_ _)); refine blk_put (cs := #[.int .u64 (bco t383 0), .int .u64 (bco t383 1), .int .u64 (bco t383 2), .int .u64 0, .int .u64 0, .int .u64 0, .int .u64 0, .int .u64 0]) ?_ 3 _ rfl; (with_reducible repeat (first | refine blk_drewN ?_ _ | refine blk_drew ?_ | refine blk_alloc ?_ _)); refine blk_put (cs := #[.int .u64 (bco t383 0), .int .u64 (bco t383 1), .int .u64 0, .int .u64 0, .int .u64 0, .int .u64 0, .int .u64 0, .int .u64 0]) ?_ 2 _ rfl; (with_reducible repeat (first | refine blk_drewN ?_ _ | refine blk_drew ?_ | refine blk_alloc ?_ _)); refine blk_put (cs := #[.int .u64 (bco t383 0), .int .u64 0, .int .u64 0, .int .u64 0, .int .u64 0, .int .u64 0, .int .u64 0, .int .u64 0]) ?_ 1 _ rfl; (with_reducible repeat (first | refine blk_drewN ?_ _ | refine blk_drew ?_ | refine blk_alloc ?_ _)); refine blk_put (cs := #[.int .u64 0, .int .u64 0, .int .u64 0, .int .u64 0, .int .u64 0, .int .u64 0, .int .u64 0, .int .u64 0]) ?_ 0 _ rfl; (with_reducible repeat (first | refine blk_drewN ?_ _ | refine blk_drew ?_ | refine blk_alloc ?_ _)); exact BK384.out⟩, ⟨sU_⟩⟩
       case round =>
        clear H'
        (try clear c2); (try clear p2); (try clear p6); (try clear c22); (try clear c23)
        obtain ⟨x15_4, x16_4, rfl, rfl, HA, HK4, BK375, BK376, BK381, BK384, HB⟩ := hrel
        cases gk with
        | zero => exact absurd HA.out (by simp [attestorlaw09_FoldApart.l0])
        | succ k4 =>
         have H := HA.out
         clear HA
         simp only [attestorlaw09_FoldApart.l0] at H
         by_cases c49 : x16_4 < x12_15
         ·rw [if_pos c49] at H
          have c49b0 := decide_eq_true c49
          clear c49
          revert H
          refine bd_ fun t388 A50 H => ?_
          revert H
          refine bd_ fun t389 A51 H => ?_
          by_cases c52 : t388 = t389
          ·rw [if_pos c52] at H
           have c52b0 := beq_iff_eq.mpr c52
           have c52b1 := bne_eq_false_iff_eq.mpr c52
           clear c52
           have H' := ak H
           clear H
           try go_wp2
           refine nx5_ (blk_drew BK375.out) (blk_drew BK376.out) (blk_drew BK381.out) (blk_drew BK384.out) (below_drew1 HB.out) ?_
           clear BK375 BK376 BK381 BK384 HB
           intro BK375 BK376 BK381 BK384 HB
           refine start_ (n := 11) (S := fun w' => w'.cell? ⟨gb375, 0, none⟩ = some (.int .u64 (bco a3 0)) ∧ w'.cell? ⟨gb375, 1, none⟩ = some (.int .u64 (bco a3 1)) ∧ w'.cell? ⟨gb375, 2, none⟩ = some (.int .u64 (bco a3 2)) ∧ w'.cell? ⟨gb375, 3, none⟩ = some (.int .u64 (bco a3 3)) ∧ w'.cell? ⟨gb375, 4, none⟩ = some (.int .u64 (bco a3 4)) ∧ w'.cell? ⟨gb375, 5, none⟩ = some (.int .u64 (bco a3 5)) ∧ w'.cell? ⟨gb375, 6, none⟩ = some (.int .u64 (bco a3 6)) ∧ w'.cell? ⟨gb375, 7, none⟩ = some (.int .u64 (bco a3 7)) ∧ w'.cell? ⟨gb376, 0, none⟩ = some (.int .u64 (bco a4 0)) ∧ w'.cell? ⟨gb376, 1, none⟩ = some (.int .u64 (bco a4 1)) ∧ w'.cell? ⟨gb376, 2, none⟩ = some (.int .u64 (bco a4 2)) ∧ w'.cell? ⟨gb376, 3, none⟩ = some (.int .u64 (bco a4 3)) ∧ w'.cell? ⟨gb376, 4, none⟩ = some (.int .u64 (bco a4 4)) ∧ w'.cell? ⟨gb376, 5, none⟩ = some (.int .u64 (bco a4 5)) ∧ w'.cell? ⟨gb376, 6, none⟩ = some (.int .u64 (bco a4 6)) ∧ w'.cell? ⟨gb376, 7, none⟩ = some (.int .u64 (bco a4 7))) (ds := []) (bv 11 0) (by kernel_rfl) rfl rfl ⟨bc0_ BK375.out, bc1_ BK375.out, bc2_ BK375.out, (blk_cell BK375.out 3).trans rfl, (blk_cell BK375.out 4).trans rfl, (blk_cell BK375.out 5).trans rfl, (blk_cell BK375.out 6).trans rfl, (blk_cell BK375.out 7).trans rfl, bc0_ BK376.out, bc1_ BK376.out, bc2_ BK376.out, (blk_cell BK376.out 3).trans rfl, (blk_cell BK376.out 4).trans rfl, (blk_cell BK376.out 5).trans rfl, (blk_cell BK376.out 6).trans rfl, (blk_cell BK376.out 7).trans rfl⟩ (fun hHeld => ?_); refine with_tabW attestorlaw09_FoldApart.tab15 attestorlaw09_FoldApart.bits15 (fun HT_ HW_ => ?_)
           generalize wr.drew = w53 at BK375 BK376 BK381 BK384 HB hHeld ⊢
           refine pq_ 0 49 11 1 HT_.out ?_
           refine pq_ 1 50 11 3 HT_.out ?_
           refine pq_ 3 52 11 11 HT_.out ?_
           refine pq_ 5 54 11 43 HT_.out ?_
           refine pq_ 6 55 11 107 HT_.out ?_
           refine pq_ 8 57 11 363 HT_.out ?_
           refine tq_ 2 51 11 367 HT_.out HW_.out hHeld ?_
           refine tq_ 7 56 11 495 HT_.out HW_.out hHeld ?_
           refine oq_ 4 53 11 511 HT_.out fun K hK => ?_
           refine gs_ Tryd.func14 #[.int .i64 (wrap64 (Int.tmod a0 2)), .int .u64 x1_6, .agg #[.int .u64 (bco a3 0), .int .u64 (bco a3 1), .int .u64 (bco a3 2), .int .u64 (bco a3 3), .int .u64 (bco a3 4), .int .u64 (bco a3 5), .int .u64 (bco a3 6), .int .u64 (bco a3 7)], .int .u64 x16_4] ?_
           refine (fold_At.calls k4 (wrap64 (Int.tmod a0 2)) x1_6 [(bco a3 0), (bco a3 1), (bco a3 2), (bco a3 3), (bco a3 4), (bco a3 5), (bco a3 6), (bco a3 7)] x16_4 t388 _ ?side1 A50.out).mono ?_
           (case side1 => repeat (first | with_reducible exact HG.out | with_reducible exact (Fld.below HG.out HB.out) | exact (Fld.below HG.out sU_) | (with_reducible refine Fld.alloc ?_ _) | (with_reducible refine Fld.drewN ?_ _) | (with_reducible refine Fld.drew ?_)))
           rintro e w54 ⟨rfl, hb⟩
           refine ⟨_, rfl, ?_⟩
           refine nx5_ (blk_below (g := gb375) (o := .cells #[.int .u64 (bco a3 0), .int .u64 (bco a3 1), .int .u64 (bco a3 2), .int .u64 (bco a3 3), .int .u64 (bco a3 4), .int .u64 (bco a3 5), .int .u64 (bco a3 6), .int .u64 (bco a3 7)] 25 (0, 0)) (kU_ BK375.out) hb) (blk_below (g := gb376) (o := .cells #[.int .u64 (bco a4 0), .int .u64 (bco a4 1), .int .u64 (bco a4 2), .int .u64 (bco a4 3), .int .u64 (bco a4 4), .int .u64 (bco a4 5), .int .u64 (bco a4 6), .int .u64 (bco a4 7)] 25 (0, 0)) (kU_ BK376.out) hb) (blk_below (g := gb381) (o := .cells #[.int .u64 (bco t380 0), .int .u64 (bco t380 1), .int .u64 (bco t380 2), .int .u64 (bco t380 3), .int .u64 (bco t380 4), .int .u64 (bco t380 5), .int .u64 (bco t380 6), .int .u64 (bco t380 7)] 25 (0, 0)) (kU_ BK381.out) hb) (blk_below (g := gb384) (o := .cells #[.int .u64 (bco t383 0), .int .u64 (bco t383 1), .int .u64 (bco t383 2), .int .u64 (bco t383 3), .int .u64 (bco t383 4), .int .u64 (bco t383 5), .int .u64 (bco t383 6), .int .u64 (bco t383 7)] 25 (0, 0)) (kU_ BK384.out) hb) (below_step sU_ hb) ?_
           clear BK375 BK376 BK381 BK384 HB
           intro BK375 BK376 BK381 BK384 HB
           (try clear hb)
           (try clear hb2)
           (try clear hk)
           (try clear hi)
           refine hK.out _ _ ⟨bc0_ BK375.out, bc1_ BK375.out, bc2_ BK375.out, (blk_cell BK375.out 3).trans rfl, (blk_cell BK375.out 4).trans rfl, (blk_cell BK375.out 5).trans rfl, (blk_cell BK375.out 6).trans rfl, (blk_cell BK375.out 7).trans rfl, bc0_ BK376.out, bc1_ BK376.out, bc2_ BK376.out, (blk_cell BK376.out 3).trans rfl, (blk_cell BK376.out 4).trans rfl, (blk_cell BK376.out 5).trans rfl, (blk_cell BK376.out 6).trans rfl, (blk_cell BK376.out 7).trans rfl⟩ (fun hHeld => ?_)
           clear hK K
           refine norm_ (a' := ?_) ?_ ?_
           rotate_left
           ·show Act.put _ (some 53) _ = _
            simp only [Act.put, s1_, s2_, s3_, i64_w, i32_w]
            rfl
           refine oq_ 9 58 11 1023 HT_.out fun K hK => ?_
           refine gs_ Tryd.func14 #[.int .i64 (wrap64 (Int.tmod a0 2)), .int .u64 x2_12, .agg #[.int .u64 (bco a4 0), .int .u64 (bco a4 1), .int .u64 (bco a4 2), .int .u64 (bco a4 3), .int .u64 (bco a4 4), .int .u64 (bco a4 5), .int .u64 (bco a4 6), .int .u64 (bco a4 7)], .int .u64 x16_4] ?_
           refine (fold_At.calls k4 (wrap64 (Int.tmod a0 2)) x2_12 [(bco a4 0), (bco a4 1), (bco a4 2), (bco a4 3), (bco a4 4), (bco a4 5), (bco a4 6), (bco a4 7)] x16_4 t389 _ ?side1 A51.out).mono ?_
           (case side1 => repeat (first | with_reducible exact HG.out | with_reducible exact (Fld.below HG.out HB.out) | exact (Fld.below HG.out sU_) | (with_reducible refine Fld.alloc ?_ _) | (with_reducible refine Fld.drewN ?_ _) | (with_reducible refine Fld.drew ?_)))
           rintro e w55 ⟨rfl, hb⟩
           refine ⟨_, rfl, ?_⟩
           refine nx5_ (blk_below (g := gb375) (o := .cells #[.int .u64 (bco a3 0), .int .u64 (bco a3 1), .int .u64 (bco a3 2), .int .u64 (bco a3 3), .int .u64 (bco a3 4), .int .u64 (bco a3 5), .int .u64 (bco a3 6), .int .u64 (bco a3 7)] 25 (0, 0)) (kU_ BK375.out) hb) (blk_below (g := gb376) (o := .cells #[.int .u64 (bco a4 0), .int .u64 (bco a4 1), .int .u64 (bco a4 2), .int .u64 (bco a4 3), .int .u64 (bco a4 4), .int .u64 (bco a4 5), .int .u64 (bco a4 6), .int .u64 (bco a4 7)] 25 (0, 0)) (kU_ BK376.out) hb) (blk_below (g := gb381) (o := .cells #[.int .u64 (bco t380 0), .int .u64 (bco t380 1), .int .u64 (bco t380 2), .int .u64 (bco t380 3), .int .u64 (bco t380 4), .int .u64 (bco t380 5), .int .u64 (bco t380 6), .int .u64 (bco t380 7)] 25 (0, 0)) (kU_ BK381.out) hb) (blk_below (g := gb384) (o := .cells #[.int .u64 (bco t383 0), .int .u64 (bco t383 1), .int .u64 (bco t383 2), .int .u64 (bco t383 3), .int .u64 (bco t383 4), .int .u64 (bco t383 5), .int .u64 (bco t383 6), .int .u64 (bco t383 7)] 25 (0, 0)) (kU_ BK384.out) hb) (below_step sU_ hb) ?_
           clear BK375 BK376 BK381 BK384 HB
           intro BK375 BK376 BK381 BK384 HB
           (try clear hb)
           (try clear hb2)
           (try clear hk)
           (try clear hi)
           refine hK.out _ _ ⟨bc0_ BK375.out, bc1_ BK375.out, bc2_ BK375.out, (blk_cell BK375.out 3).trans rfl, (blk_cell BK375.out 4).trans rfl, (blk_cell BK375.out 5).trans rfl, (blk_cell BK375.out 6).trans rfl, (blk_cell BK375.out 7).trans rfl, bc0_ BK376.out, bc1_ BK376.out, bc2_ BK376.out, (blk_cell BK376.out 3).trans rfl, (blk_cell BK376.out 4).trans rfl, (blk_cell BK376.out 5).trans rfl, (blk_cell BK376.out 6).trans rfl, (blk_cell BK376.out 7).trans rfl⟩ (fun hHeld => ?_)
           clear hK K
           refine norm_ (a' := ?_) ?_ ?_
           rotate_left
           ·show Act.put _ (some 58) _ = _
            simp only [Act.put, s1_, s2_, s3_, i64_w, i32_w]
            rfl
           refine pq_ 10 59 11 2047 HT_.out ?_
           refine done_ (done_of HT_.out (by kernel_rfl)) ?_
           try go_wp2
           go_roundg k4
           case measure => have := HJ6.out; have := HJ12.out; have := HJ15.out; have := HK4.out; omega
           case rel => exact ⟨(wrap64 (x15_4 + 1)), (IntKind.u64.wrap (x16_4 + 1)), gb_, gb_, H', ⟨by have := HJ6.out; have := HJ12.out; have := HJ15.out; have := HK4.out; omega⟩, ⟨by (with_reducible repeat (first | refine blk_drewN ?_ _ | refine blk_drew ?_ | refine blk_alloc ?_ _)); exact BK375.out⟩, ⟨by (with_reducible repeat (first | refine blk_drewN ?_ _ | refine blk_drew ?_ | refine blk_alloc ?_ _)); exact BK376.out⟩, ⟨by (with_reducible repeat (first | refine blk_drewN ?_ _ | refine blk_drew ?_ | refine blk_alloc ?_ _)); exact BK381.out⟩, ⟨by (with_reducible repeat (first | refine blk_drewN ?_ _ | refine blk_drew ?_ | refine blk_alloc ?_ _)); exact BK384.out⟩, ⟨sU_⟩⟩
          rw [if_neg c52] at H
          have c52b0 := beq_eq_false_iff_ne.mpr c52
          have c52b1 := bne_iff_ne.mpr c52
          have H' := ak H
          clear H
          try go_wp2
          refine nx5_ (blk_drew BK375.out) (blk_drew BK376.out) (blk_drew BK381.out) (blk_drew BK384.out) (below_drew1 HB.out) ?_
          clear BK375 BK376 BK381 BK384 HB
          intro BK375 BK376 BK381 BK384 HB
          refine start_ (n := 11) (S := fun w' => w'.cell? ⟨gb375, 0, none⟩ = some (.int .u64 (bco a3 0)) ∧ w'.cell? ⟨gb375, 1, none⟩ = some (.int .u64 (bco a3 1)) ∧ w'.cell? ⟨gb375, 2, none⟩ = some (.int .u64 (bco a3 2)) ∧ w'.cell? ⟨gb375, 3, none⟩ = some (.int .u64 (bco a3 3)) ∧ w'.cell? ⟨gb375, 4, none⟩ = some (.int .u64 (bco a3 4)) ∧ w'.cell? ⟨gb375, 5, none⟩ = some (.int .u64 (bco a3 5)) ∧ w'.cell? ⟨gb375, 6, none⟩ = some (.int .u64 (bco a3 6)) ∧ w'.cell? ⟨gb375, 7, none⟩ = some (.int .u64 (bco a3 7)) ∧ w'.cell? ⟨gb376, 0, none⟩ = some (.int .u64 (bco a4 0)) ∧ w'.cell? ⟨gb376, 1, none⟩ = some (.int .u64 (bco a4 1)) ∧ w'.cell? ⟨gb376, 2, none⟩ = some (.int .u64 (bco a4 2)) ∧ w'.cell? ⟨gb376, 3, none⟩ = some (.int .u64 (bco a4 3)) ∧ w'.cell? ⟨gb376, 4, none⟩ = some (.int .u64 (bco a4 4)) ∧ w'.cell? ⟨gb376, 5, none⟩ = some (.int .u64 (bco a4 5)) ∧ w'.cell? ⟨gb376, 6, none⟩ = some (.int .u64 (bco a4 6)) ∧ w'.cell? ⟨gb376, 7, none⟩ = some (.int .u64 (bco a4 7))) (ds := []) (bv 11 0) (by kernel_rfl) rfl rfl ⟨bc0_ BK375.out, bc1_ BK375.out, bc2_ BK375.out, (blk_cell BK375.out 3).trans rfl, (blk_cell BK375.out 4).trans rfl, (blk_cell BK375.out 5).trans rfl, (blk_cell BK375.out 6).trans rfl, (blk_cell BK375.out 7).trans rfl, bc0_ BK376.out, bc1_ BK376.out, bc2_ BK376.out, (blk_cell BK376.out 3).trans rfl, (blk_cell BK376.out 4).trans rfl, (blk_cell BK376.out 5).trans rfl, (blk_cell BK376.out 6).trans rfl, (blk_cell BK376.out 7).trans rfl⟩ (fun hHeld => ?_); refine with_tabW attestorlaw09_FoldApart.tab15 attestorlaw09_FoldApart.bits15 (fun HT_ HW_ => ?_)
          generalize wr.drew = w56 at BK375 BK376 BK381 BK384 HB hHeld ⊢
          refine pq_ 0 49 11 1 HT_.out ?_
          refine pq_ 1 50 11 3 HT_.out ?_
          refine pq_ 3 52 11 11 HT_.out ?_
          refine pq_ 5 54 11 43 HT_.out ?_
          refine pq_ 6 55 11 107 HT_.out ?_
          refine pq_ 8 57 11 363 HT_.out ?_
          refine tq_ 2 51 11 367 HT_.out HW_.out hHeld ?_
          refine tq_ 7 56 11 495 HT_.out HW_.out hHeld ?_
          refine oq_ 4 53 11 511 HT_.out fun K hK => ?_
          refine gs_ Tryd.func14 #[.int .i64 (wrap64 (Int.tmod a0 2)), .int .u64 x1_6, .agg #[.int .u64 (bco a3 0), .int .u64 (bco a3 1), .int .u64 (bco a3 2), .int .u64 (bco a3 3), .int .u64 (bco a3 4), .int .u64 (bco a3 5), .int .u64 (bco a3 6), .int .u64 (bco a3 7)], .int .u64 x16_4] ?_
          refine (fold_At.calls k4 (wrap64 (Int.tmod a0 2)) x1_6 [(bco a3 0), (bco a3 1), (bco a3 2), (bco a3 3), (bco a3 4), (bco a3 5), (bco a3 6), (bco a3 7)] x16_4 t388 _ ?side1 A50.out).mono ?_
          (case side1 => repeat (first | with_reducible exact HG.out | with_reducible exact (Fld.below HG.out HB.out) | exact (Fld.below HG.out sU_) | (with_reducible refine Fld.alloc ?_ _) | (with_reducible refine Fld.drewN ?_ _) | (with_reducible refine Fld.drew ?_)))
          rintro e w57 ⟨rfl, hb⟩
          refine ⟨_, rfl, ?_⟩
          refine nx5_ (blk_below (g := gb375) (o := .cells #[.int .u64 (bco a3 0), .int .u64 (bco a3 1), .int .u64 (bco a3 2), .int .u64 (bco a3 3), .int .u64 (bco a3 4), .int .u64 (bco a3 5), .int .u64 (bco a3 6), .int .u64 (bco a3 7)] 25 (0, 0)) (kU_ BK375.out) hb) (blk_below (g := gb376) (o := .cells #[.int .u64 (bco a4 0), .int .u64 (bco a4 1), .int .u64 (bco a4 2), .int .u64 (bco a4 3), .int .u64 (bco a4 4), .int .u64 (bco a4 5), .int .u64 (bco a4 6), .int .u64 (bco a4 7)] 25 (0, 0)) (kU_ BK376.out) hb) (blk_below (g := gb381) (o := .cells #[.int .u64 (bco t380 0), .int .u64 (bco t380 1), .int .u64 (bco t380 2), .int .u64 (bco t380 3), .int .u64 (bco t380 4), .int .u64 (bco t380 5), .int .u64 (bco t380 6), .int .u64 (bco t380 7)] 25 (0, 0)) (kU_ BK381.out) hb) (blk_below (g := gb384) (o := .cells #[.int .u64 (bco t383 0), .int .u64 (bco t383 1), .int .u64 (bco t383 2), .int .u64 (bco t383 3), .int .u64 (bco t383 4), .int .u64 (bco t383 5), .int .u64 (bco t383 6), .int .u64 (bco t383 7)] 25 (0, 0)) (kU_ BK384.out) hb) (below_step sU_ hb) ?_
          clear BK375 BK376 BK381 BK384 HB
          intro BK375 BK376 BK381 BK384 HB
          (try clear hb)
          (try clear hb2)
          (try clear hk)
          (try clear hi)
          refine hK.out _ _ ⟨bc0_ BK375.out, bc1_ BK375.out, bc2_ BK375.out, (blk_cell BK375.out 3).trans rfl, (blk_cell BK375.out 4).trans rfl, (blk_cell BK375.out 5).trans rfl, (blk_cell BK375.out 6).trans rfl, (blk_cell BK375.out 7).trans rfl, bc0_ BK376.out, bc1_ BK376.out, bc2_ BK376.out, (blk_cell BK376.out 3).trans rfl, (blk_cell BK376.out 4).trans rfl, (blk_cell BK376.out 5).trans rfl, (blk_cell BK376.out 6).trans rfl, (blk_cell BK376.out 7).trans rfl⟩ (fun hHeld => ?_)
          clear hK K
          refine norm_ (a' := ?_) ?_ ?_
          rotate_left
          ·show Act.put _ (some 53) _ = _
           simp only [Act.put, s1_, s2_, s3_, i64_w, i32_w]
           rfl
          refine oq_ 9 58 11 1023 HT_.out fun K hK => ?_
          refine gs_ Tryd.func14 #[.int .i64 (wrap64 (Int.tmod a0 2)), .int .u64 x2_12, .agg #[.int .u64 (bco a4 0), .int .u64 (bco a4 1), .int .u64 (bco a4 2), .int .u64 (bco a4 3), .int .u64 (bco a4 4), .int .u64 (bco a4 5), .int .u64 (bco a4 6), .int .u64 (bco a4 7)], .int .u64 x16_4] ?_
          refine (fold_At.calls k4 (wrap64 (Int.tmod a0 2)) x2_12 [(bco a4 0), (bco a4 1), (bco a4 2), (bco a4 3), (bco a4 4), (bco a4 5), (bco a4 6), (bco a4 7)] x16_4 t389 _ ?side1 A51.out).mono ?_
          (case side1 => repeat (first | with_reducible exact HG.out | with_reducible exact (Fld.below HG.out HB.out) | exact (Fld.below HG.out sU_) | (with_reducible refine Fld.alloc ?_ _) | (with_reducible refine Fld.drewN ?_ _) | (with_reducible refine Fld.drew ?_)))
          rintro e w58 ⟨rfl, hb⟩
          refine ⟨_, rfl, ?_⟩
          refine nx5_ (blk_below (g := gb375) (o := .cells #[.int .u64 (bco a3 0), .int .u64 (bco a3 1), .int .u64 (bco a3 2), .int .u64 (bco a3 3), .int .u64 (bco a3 4), .int .u64 (bco a3 5), .int .u64 (bco a3 6), .int .u64 (bco a3 7)] 25 (0, 0)) (kU_ BK375.out) hb) (blk_below (g := gb376) (o := .cells #[.int .u64 (bco a4 0), .int .u64 (bco a4 1), .int .u64 (bco a4 2), .int .u64 (bco a4 3), .int .u64 (bco a4 4), .int .u64 (bco a4 5), .int .u64 (bco a4 6), .int .u64 (bco a4 7)] 25 (0, 0)) (kU_ BK376.out) hb) (blk_below (g := gb381) (o := .cells #[.int .u64 (bco t380 0), .int .u64 (bco t380 1), .int .u64 (bco t380 2), .int .u64 (bco t380 3), .int .u64 (bco t380 4), .int .u64 (bco t380 5), .int .u64 (bco t380 6), .int .u64 (bco t380 7)] 25 (0, 0)) (kU_ BK381.out) hb) (blk_below (g := gb384) (o := .cells #[.int .u64 (bco t383 0), .int .u64 (bco t383 1), .int .u64 (bco t383 2), .int .u64 (bco t383 3), .int .u64 (bco t383 4), .int .u64 (bco t383 5), .int .u64 (bco t383 6), .int .u64 (bco t383 7)] 25 (0, 0)) (kU_ BK384.out) hb) (below_step sU_ hb) ?_
          clear BK375 BK376 BK381 BK384 HB
          intro BK375 BK376 BK381 BK384 HB
          (try clear hb)
          (try clear hb2)
          (try clear hk)
          (try clear hi)
          refine hK.out _ _ ⟨bc0_ BK375.out, bc1_ BK375.out, bc2_ BK375.out, (blk_cell BK375.out 3).trans rfl, (blk_cell BK375.out 4).trans rfl, (blk_cell BK375.out 5).trans rfl, (blk_cell BK375.out 6).trans rfl, (blk_cell BK375.out 7).trans rfl, bc0_ BK376.out, bc1_ BK376.out, bc2_ BK376.out, (blk_cell BK376.out 3).trans rfl, (blk_cell BK376.out 4).trans rfl, (blk_cell BK376.out 5).trans rfl, (blk_cell BK376.out 6).trans rfl, (blk_cell BK376.out 7).trans rfl⟩ (fun hHeld => ?_)
          clear hK K
          refine norm_ (a' := ?_) ?_ ?_
          rotate_left
          ·show Act.put _ (some 58) _ = _
           simp only [Act.put, s1_, s2_, s3_, i64_w, i32_w]
           rfl
          refine pq_ 10 59 11 2047 HT_.out ?_
          refine done_ (done_of HT_.out (by kernel_rfl)) ?_
          try go_wp2
          go_roundg k4
          case measure => have := HJ6.out; have := HJ12.out; have := HJ15.out; have := HK4.out; omega
          case rel => exact ⟨(x15_4), (IntKind.u64.wrap (x16_4 + 1)), gb_, gb_, H', ⟨by have := HJ6.out; have := HJ12.out; have := HJ15.out; have := HK4.out; omega⟩, ⟨by (with_reducible repeat (first | refine blk_drewN ?_ _ | refine blk_drew ?_ | refine blk_alloc ?_ _)); exact BK375.out⟩, ⟨by (with_reducible repeat (first | refine blk_drewN ?_ _ | refine blk_drew ?_ | refine blk_alloc ?_ _)); exact BK376.out⟩, ⟨by (with_reducible repeat (first | refine blk_drewN ?_ _ | refine blk_drew ?_ | refine blk_alloc ?_ _)); exact BK381.out⟩, ⟨by (with_reducible repeat (first | refine blk_drewN ?_ _ | refine blk_drew ?_ | refine blk_alloc ?_ _)); exact BK384.out⟩, ⟨sU_⟩⟩
         rw [if_neg c49] at H
         have c49b0 := decide_eq_false c49
         clear c49
         by_cases c59 : ((bco t380 0) == (bco t383 0) && ((bco t380 1) == (bco t383 1) && ((bco t380 2) == (bco t383 2) && ((bco t380 3) == (bco t383 3) && ((bco t380 4) == (bco t383 4) && ((bco t380 5) == (bco t383 5) && ((bco t380 6) == (bco t383 6) && ((bco t380 7) == (bco t383 7))))))))) = true
         ·rw [if_pos c59] at H
          have c59b0 : ((bco t380 0) == (bco t383 0) && ((bco t380 1) == (bco t383 1) && ((bco t380 2) == (bco t383 2) && ((bco t380 3) == (bco t383 3) && ((bco t380 4) == (bco t383 4) && ((bco t380 5) == (bco t383 5) && ((bco t380 6) == (bco t383 6) && ((bco t380 7) == (bco t383 7))))))))) = true := c59
          (try (have c59b1 : decide ((bco t380 0) = (bco t383 0) && ((bco t380 1) == (bco t383 1) && ((bco t380 2) == (bco t383 2) && ((bco t380 3) == (bco t383 3) && ((bco t380 4) == (bco t383 4) && ((bco t380 5) == (bco t383 5) && ((bco t380 6) == (bco t383 6) && ((bco t380 7) == (bco t383 7))))))))) = true := by simpa using c59))
          (try (have c59b2 : ((bco t380 0) == (bco t383 0) && ((bco t380 1) == (bco t383 1) && ((bco t380 2) == (bco t383 2) && ((bco t380 3) == (bco t383 3) && ((bco t380 4) == (bco t383 4) && ((bco t380 5) == (bco t383 5) && ((bco t380 6) == (bco t383 6) && ((bco t380 7) == (bco t383 7))))))))) = true := by simpa using c59))
          clear c59
          by_cases c60 : x15_4 = (wrap64 (x12_15))
          ·rw [if_pos c60] at H
           have c60b0 := beq_iff_eq.mpr c60
           have c60b1 := bne_eq_false_iff_eq.mpr c60
           clear c60
           revert H
           refine bd_ fun t385 A61 H => ?_
           obtain rfl := Option.some.inj H
           have hnb62 := NB381_375.out
           have hnc62 := NB375_381.out
           have hnb63 := NB381_376.out
           have hnc63 := NB376_381.out
           have hnb64 := NB381_384.out
           have hnc64 := NB384_381.out
           have hcz65_0 : wr.cell? ⟨gb381, 0, none⟩ = some (.int .u64 (bco t380 0)) := bc0_ BK381.out
           have hcz65_1 : wr.cell? ⟨gb381, 1, none⟩ = some (.int .u64 (bco t380 1)) := bc1_ BK381.out
           have hcz65_2 : wr.cell? ⟨gb381, 2, none⟩ = some (.int .u64 (bco t380 2)) := bc2_ BK381.out
           have hcz65_3 : wr.cell? ⟨gb381, 3, none⟩ = some (.int .u64 (bco t380 3)) := (blk_cell BK381.out 3).trans rfl
           have hcz65_4 : wr.cell? ⟨gb381, 4, none⟩ = some (.int .u64 (bco t380 4)) := (blk_cell BK381.out 4).trans rfl
           have hcz65_5 : wr.cell? ⟨gb381, 5, none⟩ = some (.int .u64 (bco t380 5)) := (blk_cell BK381.out 5).trans rfl
           have hcz65_6 : wr.cell? ⟨gb381, 6, none⟩ = some (.int .u64 (bco t380 6)) := (blk_cell BK381.out 6).trans rfl
           have hcz65_7 : wr.cell? ⟨gb381, 7, none⟩ = some (.int .u64 (bco t380 7)) := (blk_cell BK381.out 7).trans rfl
           have hfz65_0 := blk_frozen BK381.out 0
           have hfz65_1 := blk_frozen BK381.out 1
           have hfz65_2 := blk_frozen BK381.out 2
           have hfz65_3 := blk_frozen BK381.out 3
           have hfz65_4 := blk_frozen BK381.out 4
           have hfz65_5 := blk_frozen BK381.out 5
           have hfz65_6 := blk_frozen BK381.out 6
           have hfz65_7 := blk_frozen BK381.out 7
           have hnb66 := NB384_375.out
           have hnc66 := NB375_384.out
           have hnb67 := NB384_376.out
           have hnc67 := NB376_384.out
           have hcz68_0 : wr.cell? ⟨gb384, 0, none⟩ = some (.int .u64 (bco t383 0)) := bc0_ BK384.out
           have hcz68_1 : wr.cell? ⟨gb384, 1, none⟩ = some (.int .u64 (bco t383 1)) := bc1_ BK384.out
           have hcz68_2 : wr.cell? ⟨gb384, 2, none⟩ = some (.int .u64 (bco t383 2)) := bc2_ BK384.out
           have hcz68_3 : wr.cell? ⟨gb384, 3, none⟩ = some (.int .u64 (bco t383 3)) := (blk_cell BK384.out 3).trans rfl
           have hcz68_4 : wr.cell? ⟨gb384, 4, none⟩ = some (.int .u64 (bco t383 4)) := (blk_cell BK384.out 4).trans rfl
           have hcz68_5 : wr.cell? ⟨gb384, 5, none⟩ = some (.int .u64 (bco t383 5)) := (blk_cell BK384.out 5).trans rfl
           have hcz68_6 : wr.cell? ⟨gb384, 6, none⟩ = some (.int .u64 (bco t383 6)) := (blk_cell BK384.out 6).trans rfl
           have hcz68_7 : wr.cell? ⟨gb384, 7, none⟩ = some (.int .u64 (bco t383 7)) := (blk_cell BK384.out 7).trans rfl
           have hfz68_0 := blk_frozen BK384.out 0
           have hfz68_1 := blk_frozen BK384.out 1
           have hfz68_2 := blk_frozen BK384.out 2
           have hfz68_3 := blk_frozen BK384.out 3
           have hfz68_4 := blk_frozen BK384.out 4
           have hfz68_5 := blk_frozen BK384.out 5
           have hfz68_6 := blk_frozen BK384.out 6
           have hfz68_7 := blk_frozen BK384.out 7
           go_wp2_with (first | (go_at_call 16; (with_reducible refine (attestorlaw09_works.calls k4  t385 _ ?side1 A61.out).mono ?_); (case side1 => repeat (first | with_reducible exact HG.out | with_reducible exact (Fld.below HG.out HB.out) | exact (Fld.below HG.out sU_) | (with_reducible refine Fld.alloc ?_ _) | (with_reducible refine Fld.drewN ?_ _) | (with_reducible refine Fld.drew ?_))); rintro e w69 ⟨rfl, hb⟩; refine nx5_ (blk_below (g := gb375) (o := .cells #[.int .u64 (bco a3 0), .int .u64 (bco a3 1), .int .u64 (bco a3 2), .int .u64 (bco a3 3), .int .u64 (bco a3 4), .int .u64 (bco a3 5), .int .u64 (bco a3 6), .int .u64 (bco a3 7)] 25 (0, 0)) (kU_ BK375.out) hb) (blk_below (g := gb376) (o := .cells #[.int .u64 (bco a4 0), .int .u64 (bco a4 1), .int .u64 (bco a4 2), .int .u64 (bco a4 3), .int .u64 (bco a4 4), .int .u64 (bco a4 5), .int .u64 (bco a4 6), .int .u64 (bco a4 7)] 25 (0, 0)) (kU_ BK376.out) hb) (blk_below (g := gb381) (o := .cells #[.int .u64 (bco t380 0), .int .u64 (bco t380 1), .int .u64 (bco t380 2), .int .u64 (bco t380 3), .int .u64 (bco t380 4), .int .u64 (bco t380 5), .int .u64 (bco t380 6), .int .u64 (bco t380 7)] 25 (0, 0)) (kU_ BK381.out) hb) (blk_below (g := gb384) (o := .cells #[.int .u64 (bco t383 0), .int .u64 (bco t383 1), .int .u64 (bco t383 2), .int .u64 (bco t383 3), .int .u64 (bco t383 4), .int .u64 (bco t383 5), .int .u64 (bco t383 6), .int .u64 (bco t383 7)] 25 (0, 0)) (kU_ BK384.out) hb) (below_step sU_ hb) ?_; clear BK375 BK376 BK381 BK384 HB; intro BK375 BK376 BK381 BK384 HB; clear hb))
           go_ret
           exact ⟨eW_, sU_⟩
          rw [if_neg c60] at H
          have c60b0 := beq_eq_false_iff_ne.mpr c60
          have c60b1 := bne_iff_ne.mpr c60
          by_cases c70 : (((bco t380 0) == (bco t383 0) && ((bco t380 1) == (bco t383 1) && ((bco t380 2) == (bco t383 2) && ((bco t380 3) == (bco t383 3) && ((bco t380 4) == (bco t383 4) && ((bco t380 5) == (bco t383 5) && ((bco t380 6) == (bco t383 6) && ((bco t380 7) == (bco t383 7))))))))) = true)
          ·rw [if_pos c70] at H
           exact absurd H (by simp)
          rw [if_neg c70] at H
          exact absurd c59b0 c70
         rw [if_neg c59] at H
         have c59b0 : ((bco t380 0) == (bco t383 0) && ((bco t380 1) == (bco t383 1) && ((bco t380 2) == (bco t383 2) && ((bco t380 3) == (bco t383 3) && ((bco t380 4) == (bco t383 4) && ((bco t380 5) == (bco t383 5) && ((bco t380 6) == (bco t383 6) && ((bco t380 7) == (bco t383 7))))))))) = false := by simpa using c59
         (try (have c59b1 : decide ((bco t380 0) = (bco t383 0) && ((bco t380 1) == (bco t383 1) && ((bco t380 2) == (bco t383 2) && ((bco t380 3) == (bco t383 3) && ((bco t380 4) == (bco t383 4) && ((bco t380 5) == (bco t383 5) && ((bco t380 6) == (bco t383 6) && ((bco t380 7) == (bco t383 7))))))))) = false := by simpa using c59))
         (try (have c59b2 : ((bco t380 0) == (bco t383 0) && ((bco t380 1) == (bco t383 1) && ((bco t380 2) == (bco t383 2) && ((bco t380 3) == (bco t383 3) && ((bco t380 4) == (bco t383 4) && ((bco t380 5) == (bco t383 5) && ((bco t380 6) == (bco t383 6) && ((bco t380 7) == (bco t383 7))))))))) = false := by simpa using c59))
         (try (have c59b3 : ¬ ((bco t380 0) = (bco t383 0) && ((bco t380 1) == (bco t383 1) && ((bco t380 2) == (bco t383 2) && ((bco t380 3) == (bco t383 3) && ((bco t380 4) == (bco t383 4) && ((bco t380 5) == (bco t383 5) && ((bco t380 6) == (bco t383 6) && ((bco t380 7) == (bco t383 7))))))))) := by simpa using c59))
         clear c59
         by_cases c81 : (((bco t380 0) == (bco t383 0) && ((bco t380 1) == (bco t383 1) && ((bco t380 2) == (bco t383 2) && ((bco t380 3) == (bco t383 3) && ((bco t380 4) == (bco t383 4) && ((bco t380 5) == (bco t383 5) && ((bco t380 6) == (bco t383 6) && ((bco t380 7) == (bco t383 7))))))))) = true)
         ·rw [if_pos c81] at H
          exact absurd H (by simp)
         rw [if_neg c81] at H
         have c81b0 : ((bco t380 0) == (bco t383 0) && ((bco t380 1) == (bco t383 1) && ((bco t380 2) == (bco t383 2) && ((bco t380 3) == (bco t383 3) && ((bco t380 4) == (bco t383 4) && ((bco t380 5) == (bco t383 5) && ((bco t380 6) == (bco t383 6) && ((bco t380 7) == (bco t383 7))))))))) = false := by simpa using c81
         (try (have c81b1 : decide ((bco t380 0) = (bco t383 0) && ((bco t380 1) == (bco t383 1) && ((bco t380 2) == (bco t383 2) && ((bco t380 3) == (bco t383 3) && ((bco t380 4) == (bco t383 4) && ((bco t380 5) == (bco t383 5) && ((bco t380 6) == (bco t383 6) && ((bco t380 7) == (bco t383 7))))))))) = false := by simpa using c81))
         (try (have c81b2 : ((bco t380 0) == (bco t383 0) && ((bco t380 1) == (bco t383 1) && ((bco t380 2) == (bco t383 2) && ((bco t380 3) == (bco t383 3) && ((bco t380 4) == (bco t383 4) && ((bco t380 5) == (bco t383 5) && ((bco t380 6) == (bco t383 6) && ((bco t380 7) == (bco t383 7))))))))) = false := by simpa using c81))
         (try (have c81b3 : ¬ ((bco t380 0) = (bco t383 0) && ((bco t380 1) == (bco t383 1) && ((bco t380 2) == (bco t383 2) && ((bco t380 3) == (bco t383 3) && ((bco t380 4) == (bco t383 4) && ((bco t380 5) == (bco t383 5) && ((bco t380 6) == (bco t383 6) && ((bco t380 7) == (bco t383 7))))))))) := by simpa using c81))
         clear c81
         obtain ⟨c82, H⟩ : (x15_4 ≤ 7) ∧ _ := it_ H
         have c82b0 := decide_eq_true c82
         clear c82
         revert H
         refine bd_ fun t387 A83 H => ?_
         obtain rfl := Option.some.inj H
         have hnb84 := NB381_375.out
         have hnc84 := NB375_381.out
         have hnb85 := NB381_376.out
         have hnc85 := NB376_381.out
         have hnb86 := NB381_384.out
         have hnc86 := NB384_381.out
         have hcz87_0 : wr.cell? ⟨gb381, 0, none⟩ = some (.int .u64 (bco t380 0)) := bc0_ BK381.out
         have hcz87_1 : wr.cell? ⟨gb381, 1, none⟩ = some (.int .u64 (bco t380 1)) := bc1_ BK381.out
         have hcz87_2 : wr.cell? ⟨gb381, 2, none⟩ = some (.int .u64 (bco t380 2)) := bc2_ BK381.out
         have hcz87_3 : wr.cell? ⟨gb381, 3, none⟩ = some (.int .u64 (bco t380 3)) := (blk_cell BK381.out 3).trans rfl
         have hcz87_4 : wr.cell? ⟨gb381, 4, none⟩ = some (.int .u64 (bco t380 4)) := (blk_cell BK381.out 4).trans rfl
         have hcz87_5 : wr.cell? ⟨gb381, 5, none⟩ = some (.int .u64 (bco t380 5)) := (blk_cell BK381.out 5).trans rfl
         have hcz87_6 : wr.cell? ⟨gb381, 6, none⟩ = some (.int .u64 (bco t380 6)) := (blk_cell BK381.out 6).trans rfl
         have hcz87_7 : wr.cell? ⟨gb381, 7, none⟩ = some (.int .u64 (bco t380 7)) := (blk_cell BK381.out 7).trans rfl
         have hfz87_0 := blk_frozen BK381.out 0
         have hfz87_1 := blk_frozen BK381.out 1
         have hfz87_2 := blk_frozen BK381.out 2
         have hfz87_3 := blk_frozen BK381.out 3
         have hfz87_4 := blk_frozen BK381.out 4
         have hfz87_5 := blk_frozen BK381.out 5
         have hfz87_6 := blk_frozen BK381.out 6
         have hfz87_7 := blk_frozen BK381.out 7
         have hnb88 := NB384_375.out
         have hnc88 := NB375_384.out
         have hnb89 := NB384_376.out
         have hnc89 := NB376_384.out
         have hcz90_0 : wr.cell? ⟨gb384, 0, none⟩ = some (.int .u64 (bco t383 0)) := bc0_ BK384.out
         have hcz90_1 : wr.cell? ⟨gb384, 1, none⟩ = some (.int .u64 (bco t383 1)) := bc1_ BK384.out
         have hcz90_2 : wr.cell? ⟨gb384, 2, none⟩ = some (.int .u64 (bco t383 2)) := bc2_ BK384.out
         have hcz90_3 : wr.cell? ⟨gb384, 3, none⟩ = some (.int .u64 (bco t383 3)) := (blk_cell BK384.out 3).trans rfl
         have hcz90_4 : wr.cell? ⟨gb384, 4, none⟩ = some (.int .u64 (bco t383 4)) := (blk_cell BK384.out 4).trans rfl
         have hcz90_5 : wr.cell? ⟨gb384, 5, none⟩ = some (.int .u64 (bco t383 5)) := (blk_cell BK384.out 5).trans rfl
         have hcz90_6 : wr.cell? ⟨gb384, 6, none⟩ = some (.int .u64 (bco t383 6)) := (blk_cell BK384.out 6).trans rfl
         have hcz90_7 : wr.cell? ⟨gb384, 7, none⟩ = some (.int .u64 (bco t383 7)) := (blk_cell BK384.out 7).trans rfl
         have hfz90_0 := blk_frozen BK384.out 0
         have hfz90_1 := blk_frozen BK384.out 1
         have hfz90_2 := blk_frozen BK384.out 2
         have hfz90_3 := blk_frozen BK384.out 3
         have hfz90_4 := blk_frozen BK384.out 4
         have hfz90_5 := blk_frozen BK384.out 5
         have hfz90_6 := blk_frozen BK384.out 6
         have hfz90_7 := blk_frozen BK384.out 7
         go_wp2_with (first | (go_at_call 16; (with_reducible refine (attestorlaw09_works.calls k4  t387 _ ?side1 A83.out).mono ?_); (case side1 => repeat (first | with_reducible exact HG.out | with_reducible exact (Fld.below HG.out HB.out) | exact (Fld.below HG.out sU_) | (with_reducible refine Fld.alloc ?_ _) | (with_reducible refine Fld.drewN ?_ _) | (with_reducible refine Fld.drew ?_))); rintro e w91 ⟨rfl, hb⟩; refine nx5_ (blk_below (g := gb375) (o := .cells #[.int .u64 (bco a3 0), .int .u64 (bco a3 1), .int .u64 (bco a3 2), .int .u64 (bco a3 3), .int .u64 (bco a3 4), .int .u64 (bco a3 5), .int .u64 (bco a3 6), .int .u64 (bco a3 7)] 25 (0, 0)) (kU_ BK375.out) hb) (blk_below (g := gb376) (o := .cells #[.int .u64 (bco a4 0), .int .u64 (bco a4 1), .int .u64 (bco a4 2), .int .u64 (bco a4 3), .int .u64 (bco a4 4), .int .u64 (bco a4 5), .int .u64 (bco a4 6), .int .u64 (bco a4 7)] 25 (0, 0)) (kU_ BK376.out) hb) (blk_below (g := gb381) (o := .cells #[.int .u64 (bco t380 0), .int .u64 (bco t380 1), .int .u64 (bco t380 2), .int .u64 (bco t380 3), .int .u64 (bco t380 4), .int .u64 (bco t380 5), .int .u64 (bco t380 6), .int .u64 (bco t380 7)] 25 (0, 0)) (kU_ BK381.out) hb) (blk_below (g := gb384) (o := .cells #[.int .u64 (bco t383 0), .int .u64 (bco t383 1), .int .u64 (bco t383 2), .int .u64 (bco t383 3), .int .u64 (bco t383 4), .int .u64 (bco t383 5), .int .u64 (bco t383 6), .int .u64 (bco t383 7)] 25 (0, 0)) (kU_ BK384.out) hb) (below_step sU_ hb) ?_; clear BK375 BK376 BK381 BK384 HB; intro BK375 BK376 BK381 BK384 HB; clear hb))
         go_ret
         exact ⟨eW_, sU_⟩

end Go.Proofs.YthinfmfjpaikiaaDoor.Q

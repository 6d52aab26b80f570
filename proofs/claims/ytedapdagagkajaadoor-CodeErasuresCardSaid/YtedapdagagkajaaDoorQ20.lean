-- Written by prx.py (this session's driver of the kit's print) out of the translation. Not trusted: Lean checks it.
import Derived.Test.YtedapdagagkajaaDoorQ0
import Derived.Test.YtedapdagagkajaaDoorQ3
import Derived.Test.YtedapdagagkajaaDoorQ4
import Derived.Test.YtedapdagagkajaaDoorQ5
import Derived.Test.YtedapdagagkajaaDoorQ6
import Derived.Test.YtedapdagagkajaaDoorQ11
import Derived.Test.YtedapdagagkajaaDoorQ18
namespace Go.Proofs.YtedapdagagkajaaDoor.Q
open Go.RowKit Go.Proofs.YtedapdagagkajaaDoorW.PrintWords Go.Proofs.YtedapdagagkajaaDoorW.PrintLast Go.Proofs.YtedapdagagkajaaDoorW.PrintMore
attribute [local go_sem] max2_int min2_int max_two min_two max_three min_three max_four min_four   -- for this text's walks alone
set_option linter.unusedVariables false
set_option linter.unusedSimpArgs false

/-! ### attestorlaw05_CodeErasures: function 7 -/
mutual
def attestorlaw05_CodeErasures.l0 : Nat → List Bool → Int → Int → List Int → List Bool → Int → Int → Int → Int → Int → Option (Bool)
 | 0, _, _, _, _, _, _, _, _, _, _ => none
 | k + 1, x4, x12, x13, x14, x15, x16, x17, x764000, x764001, x764002 => if x17 < x12 then (if x17 ≥ (x4.length : Int) then (if 0 ≤ x17 then (if x17 < (x15.length : Int) then ((some (x15.set (x17 : Int).toNat true : List Bool)).bind fun y776 => (if rdOf false y776 x17 = true then (attestorlaw05_CodeErasures.l0 k x4 x12 x13 x14 y776 (wrap64 (x16 + 1)) (wrap64 (x17 + 1)) x764000 x764001 x764002) else (attestorlaw05_CodeErasures.l0 k x4 x12 x13 x14 y776 x16 (wrap64 (x17 + 1)) x764000 x764001 x764002))) else (none)) else (none)) else (if 0 ≤ x17 then (if x17 < (x4.length : Int) then (if x17 < (x15.length : Int) then ((some (x15.set (x17 : Int).toNat (!(rdOf false x4 x17)) : List Bool)).bind fun y779 => (if rdOf false y779 x17 = true then (attestorlaw05_CodeErasures.l0 k x4 x12 x13 x14 y779 (wrap64 (x16 + 1)) (wrap64 (x17 + 1)) x764000 x764001 x764002) else (attestorlaw05_CodeErasures.l0 k x4 x12 x13 x14 y779 x16 (wrap64 (x17 + 1)) x764000 x764001 x764002))) else (none)) else (none)) else (none))) else (attestorlaw05_CodeErasures.l1 k x12 x13 x14 x15 x16 0 x764000 x764001 x764002)
def attestorlaw05_CodeErasures.j2 : Nat → Int → Int → List Int → List Bool → Int → Int → Int → Int → Option (Bool)
 | 0, _, _, _, _, _, _, _, _ => none
 | k + 1, x12, x13, x14, x15, x16, x764000, x764001, x764002 => if (x14.length : Int) = x12 then (attestorlaw05_CodeErasures.j3 k x12 x13 x14 x15 x16 x764000 x764001 x764002) else (none)
def attestorlaw05_CodeErasures.j3 : Nat → Int → Int → List Int → List Bool → Int → Int → Int → Int → Option (Bool)
 | 0, _, _, _, _, _, _, _, _ => none
 | k + 1, x12, x13, x14, x15, x16, x764000, x764001, x764002 => attestorlaw05_CodeErasures.l2 k x12 x13 x14 x15 x16 ([] : List Int) (-1) 0 x764000 x764001 x764002
def attestorlaw05_CodeErasures.l2 : Nat → Int → Int → List Int → List Bool → Int → List Int → Int → Int → Int → Int → Int → Option (Bool)
 | 0, _, _, _, _, _, _, _, _, _, _, _ => none
 | k + 1, x12, x13, x14, x15, x16, x19, x20, x21, x764000, x764001, x764002 => if x21 < x12 then (if 0 ≤ x21 then (if x21 < (x15.length : Int) then (if rdOf false x15 x21 = true then (if x21 < (x14.length : Int) then (if x19.length < 17592186044416 then (attestorlaw05_CodeErasures.l2 k x12 x13 x14 x15 x16 (x19 ++ [rd x14 x21]) x21 (wrap64 (x21 + 1)) x764000 x764001 x764002) else (none)) else (none)) else (if x19.length < 17592186044416 then (attestorlaw05_CodeErasures.l2 k x12 x13 x14 x15 x16 (x19 ++ [IntKind.u64.wrap (x21)]) x20 (wrap64 (x21 + 1)) x764000 x764001 x764002) else (none))) else (none)) else (none)) else ((code_Fill.f k x764000 x764001 x764002 x19 x15 x13).bind fun bt791 => (if bt791.2 = 0 then ((attestorlaw05_same.f k bt791.1 x14).bind fun t795 => (if t795 = true then (attestorlaw05_CodeErasures.j5 k x13 x15 x16 x19 x20 x764000 x764001 x764002) else (none))) else (none)))
def attestorlaw05_CodeErasures.j5 : Nat → Int → List Bool → Int → List Int → Int → Int → Int → Int → Option (Bool)
 | 0, _, _, _, _, _, _, _, _ => none
 | k + 1, x13, x15, x16, x19, x20, x764000, x764001, x764002 => if x16 ≤ x13 then ((attestorlaw05_works.f k).bind fun t796 => (some t796)) else (if x20 < 0 then ((attestorlaw05_works.f k).bind fun t797 => (some t797)) else (if 0 ≤ x20 then (if x20 < (x19.length : Int) then ((field_Add.f x764000 (rd x19 x20) 1).bind fun t799 => ((code_Fill.f k x764000 x764001 x764002 (x19.set (x20 : Int).toNat t799) x15 x13).bind fun bt801 => (if bt801.2 = 7 then ((attestorlaw05_works.f k).bind fun t805 => (some t805)) else (none)))) else (none)) else (none)))
def attestorlaw05_CodeErasures.l1 : Nat → Int → Int → List Int → List Bool → Int → Int → Int → Int → Int → Option (Bool)
 | 0, _, _, _, _, _, _, _, _, _ => none
 | k + 1, x12, x13, x14, x15, x16, x18, x764000, x764001, x764002 => if x18 < x12 then (if x16 < x13 then (if 0 ≤ x18 then (if x18 < (x15.length : Int) then (if rdOf false x15 x18 = true then (attestorlaw05_CodeErasures.l1 k x12 x13 x14 x15 x16 (wrap64 (x18 + 1)) x764000 x764001 x764002) else (attestorlaw05_CodeErasures.l1 k x12 x13 x14 (x15.set (x18 : Int).toNat true) (wrap64 (x16 + 1)) (wrap64 (x18 + 1)) x764000 x764001 x764002)) else (none)) else (none)) else (attestorlaw05_CodeErasures.j2 k x12 x13 x14 x15 x16 x764000 x764001 x764002)) else (attestorlaw05_CodeErasures.j2 k x12 x13 x14 x15 x16 x764000 x764001 x764002)
end
def attestorlaw05_CodeErasures.f (k : Nat) (a0 : Int) (a1 : Int) (a2 : Int) (l3 : List Int) (l4 : List Bool) : Option (Bool) := (attestorlaw05_domain.f a0 a1 a2 0).bind fun bt760 => (if 0 ≤ (IntKind.u64.wrap (bt760.2.1)) then ((attestorlaw05_own.f l3 (shl .i64 1 (IntKind.u64.wrap (bt760.2.1)))).bind fun t764 => ((poly_Normal.f k bt760.1 t764).bind fun t767 => ((attestorlaw05_word.f k bt760.1 bt760.2.1 bt760.2.2 t767).bind fun t770 => (if 0 ≤ (shl .i64 1 (IntKind.u64.wrap (bt760.2.1))) then (if (shl .i64 1 (IntKind.u64.wrap (bt760.2.1)) : Int).toNat ≤ 281474976710656 then (attestorlaw05_CodeErasures.l0 k l4 (shl .i64 1 (IntKind.u64.wrap (bt760.2.1))) (t767.length : Int) t770 (List.replicate (shl .i64 1 (IntKind.u64.wrap (bt760.2.1)) : Int).toNat false) 0 0 bt760.1 bt760.2.1 bt760.2.2) else (none)) else (none))))) else (none))
def attestorlaw05_CodeErasures.T36 : Bool × List (List Nat × List Nat) := (true, [([], []), ([], []), ([], []), ([2], [2]), ([], []), ([], []), ([4, 5], [4, 5]), ([6], [6]), ([3, 7], [3, 7]), ([0, 1, 0, 1, 2, 3, 4, 5, 6, 7, 8], [0, 1]), ([9, 8, 8, 0, 1, 2, 3, 4, 5, 6, 7, 8], [8, 9])])
def attestorlaw05_CodeErasures.B36 : List Nat := [0, 0, 0, 4, 0, 0, 48, 112, 252, 511, 1023]
theorem attestorlaw05_CodeErasures.tab36 : rtab .any (opsOf Tryd.f7 36) = attestorlaw05_CodeErasures.T36 := by kernel_rfl
theorem attestorlaw05_CodeErasures.bits36 : waitsOk attestorlaw05_CodeErasures.T36.2 attestorlaw05_CodeErasures.B36 = true := by kernel_rfl
set_option maxHeartbeats 8000000 in
set_option maxRecDepth 100000 in
theorem attestorlaw05_CodeErasures.calls (k : Nat) (a0 : Int) (a1 : Int) (a2 : Int) (A3 : Option Addr) (c3 : Nat) (l3 : List Int) (A4 : Option Addr) (c4 : Nat) (l4 : List Bool) (r : Bool) (w : World) (hG : Fld w) (hr3 : Kd.C (Kd.int .u64) w A3 l3.length l3) (hc3 : l3.length ≤ c3) (hr4 : Kd.C Kd.bool w A4 l4.length l4) (hc4 : l4.length ≤ c4) (h : attestorlaw05_CodeErasures.f k a0 a1 a2 l3 l4 = some r) :
  Calls Tryd.prog 7 #[.int .u8 a0, .int .u8 a1, .int .u64 a2, .slice A3 l3.length c3, .slice A4 l4.length c4] w fun e w' => e = .returned (.bool r) ∧ Below w.heap.size w w' := by
 have hu24 := Tryd.underlying24
 have HG := ak hG
 clear hG
 have HR3 := ak hr3
 have HC3 := ak hc3
 clear hr3 hc3
 have HR4 := ak hr4
 have HC4 := ak hc4
 clear hr4 hc4
 have HB := ak (Below.refl w.heap.size w)
 have H : ((attestorlaw05_domain.f a0 a1 a2 0).bind fun bt760 => (if 0 ≤ (IntKind.u64.wrap (bt760.2.1)) then ((attestorlaw05_own.f l3 (shl .i64 1 (IntKind.u64.wrap (bt760.2.1)))).bind fun t764 => ((poly_Normal.f k bt760.1 t764).bind fun t767 => ((attestorlaw05_word.f k bt760.1 bt760.2.1 bt760.2.2 t767).bind fun t770 => (if 0 ≤ (shl .i64 1 (IntKind.u64.wrap (bt760.2.1))) then (if (shl .i64 1 (IntKind.u64.wrap (bt760.2.1)) : Int).toNat ≤ 281474976710656 then (attestorlaw05_CodeErasures.l0 k l4 (shl .i64 1 (IntKind.u64.wrap (bt760.2.1))) (t767.length : Int) t770 (List.replicate (shl .i64 1 (IntKind.u64.wrap (bt760.2.1)) : Int).toNat false) 0 0 bt760.1 bt760.2.1 bt760.2.2) else (none)) else (none))))) else (none))) = some r := h
 clear h
 revert H
 refine bd3_ fun t760 t761 t762 A6 H => ?_
 try dsimp only at H
 obtain ⟨ji7, hji7⟩ : ∃ j_ : Int, (IntKind.u64.wrap (t761)) = j_ := ⟨_, rfl⟩
 first | rw [hji7] at H | simp only [hji7] at H
 (try rw [hji7] at A6)
 obtain ⟨c8, H⟩ : (0 ≤ (ji7)) ∧ _ := it_ H
 have c8b0 := eq_true c8
 have c8b1 := decide_eq_true c8
 clear c8
 obtain ⟨ji9, hji9⟩ : ∃ j_ : Int, (shl .i64 1 (ji7)) = j_ := ⟨_, rfl⟩
 first | rw [hji9] at H | simp only [hji9] at H
 (try rw [hji9] at A6)
 have hji9_ : (IntKind.i64.wrap (1 * 2 ^ min (ji7).toNat 64)) = ji9 := hji9
 have hji9z : (ji7) ≤ 64 → (IntKind.i64.wrap (1 * 2 ^ (ji7).toNat)) = ji9 := shl_small hji9
 have hji9u : (IntKind.i64.wrap (2 ^ min (ji7).toNat 64)) = ji9 := by have h_ := hji9_; rw [Int.one_mul] at h_; exact h_
 have hji9v : (ji7) ≤ 64 → (IntKind.i64.wrap (2 ^ (ji7).toNat)) = ji9 := fun hle_ => by have h_ := hji9z hle_; rw [Int.one_mul] at h_; exact h_
 have hji9y : (wrap64 (1 * 2 ^ min (ji7).toNat 64)) = ji9 := (i64_w _).symm.trans hji9_
 have hji9x : (ji7) ≤ 64 → (wrap64 (1 * 2 ^ (ji7).toNat)) = ji9 := fun h_ => (i64_w _).symm.trans (hji9z h_)
 revert H
 refine bd_ fun t764 A10 H => ?_
 revert H
 refine bd_ fun t767 A11 H => ?_
 revert H
 refine bd_ fun t770 A12 H => ?_
 obtain ⟨c13, H⟩ : (0 ≤ (ji9)) ∧ _ := it_ H
 have c13b0 := eq_true c13
 have c13b1 := decide_eq_true c13
 clear c13
 obtain ⟨c14, H⟩ : ((ji9 : Int).toNat ≤ 281474976710656) ∧ _ := it_ H
 have c14b0 := eq_true c14
 have c14b1 := decide_eq_true c14
 clear c14
 obtain ⟨y773, hy773⟩ : ∃ y_ : List Bool, y_ = (List.replicate (ji9 : Int).toNat false) := ⟨_, rfl⟩
 replace H : (attestorlaw05_CodeErasures.l0 k l4 ji9 (t767.length : Int) t770 y773 0 0 t760 t761 t762) = some r := by first | (rw [hy773]; with_reducible exact H) | (have H2_ := (Option.bind_some _ _).symm.trans H; rw [hy773]; with_reducible exact H2_) | (have H2_ := (Option.bind_some _ _).symm.trans H; with_reducible exact H2_) | with_reducible exact H | (rw [hy773]; exact H) | exact H
 have Ny773 := ak hy773
 clear hy773
 have H' := ak H
 clear H
 go_enter Tryd.func7, Tryd.ntmps7
 try go_wp2_with (first | ((with_reducible refine gate_callee (f := 33) rfl ?_); refine gl_ (some 27) Tryd.func33 #[.int .u8 a0, .int .u8 a1, .int .u64 a2, .int .i64 0] ?_; (with_reducible refine (attestorlaw05_domain.calls a0 a1 a2 0 t760 t761 t762 _ ?side1 A6.out).mono ?_); (case side1 => exact fU_ HG.out HB.out); rintro e w15 ⟨rfl, hb⟩; refine ⟨_, rfl, ?_⟩; refine nx1_ (below_step (bU_ HB.out) hb) ?_; clear HB; intro HB; clear hb) | ((with_reducible refine gate_dst (N := 11) rfl ?_); refine box_event ?hg (N := 11) ?hd (cs := #[.int .i64 0, .int .i64 0, .int .u64 0]) (t := 24) ?hr ?_; (case hd => rfl); (case hg => rfl); (case hr => first | (go_simp; done) | (go_simp; rfl)); intro gb763 hg w16 hbox hb; refine nx4_ (below_step (bU_ HB.out) hb) (hbox) ((by rw [hg]; exact (below_size (bU_ HB.out)) : w.heap.size ≤ gb763)) ((by rw [hg]; exact (below_size (bU_ HB.out)) : w.heap.size ≤ gb763)) ?_; clear HB; intro HB BK763 GW763 GE763; clear hb hbox hg; have hcz17_0 : w16.cell? ⟨gb763, 0, none⟩ = some (.int .i64 0) := (blk_cell BK763.out 0).trans rfl; have hcz17_1 : w16.cell? ⟨gb763, 1, none⟩ = some (.int .i64 0) := (blk_cell BK763.out 1).trans rfl; have hcz17_2 : w16.cell? ⟨gb763, 2, none⟩ = some (.int .u64 0) := (blk_cell BK763.out 2).trans rfl; have hfz17_0 := blk_frozen BK763.out 0; have hfz17_1 := blk_frozen BK763.out 1; have hfz17_2 := blk_frozen BK763.out 2))
 have n0_ : Aside0 ((((w16.setCell ⟨gb763, 0, none⟩ (.int .i64 t760)).setCell ⟨gb763, 1, none⟩ (.int .i64 t761)).setCell ⟨gb763, 2, none⟩ (.int .u64 t762)).heap[gb763]? = some (.cells #[.int .i64 t760, .int .i64 t761, .int .u64 t762] 24 (0, 0))) := ⟨by (with_reducible repeat (first | refine blk_drewN ?_ _ | refine blk_drew ?_ | refine blk_alloc ?_ _)); refine blk_put (cs := #[.int .i64 t760, .int .i64 t761, .int .u64 0]) ?_ 2 _ rfl; (with_reducible repeat (first | refine blk_drewN ?_ _ | refine blk_drew ?_ | refine blk_alloc ?_ _)); refine blk_put (cs := #[.int .i64 t760, .int .i64 0, .int .u64 0]) ?_ 1 _ rfl; (with_reducible repeat (first | refine blk_drewN ?_ _ | refine blk_drew ?_ | refine blk_alloc ?_ _)); refine blk_put (cs := #[.int .i64 0, .int .i64 0, .int .u64 0]) ?_ 0 _ rfl; (with_reducible repeat (first | refine blk_drewN ?_ _ | refine blk_drew ?_ | refine blk_alloc ?_ _)); exact BK763.out⟩
 have n1_ : Aside0 (Below w.heap.size w (((w16.setCell ⟨gb763, 0, none⟩ (.int .i64 t760)).setCell ⟨gb763, 1, none⟩ (.int .i64 t761)).setCell ⟨gb763, 2, none⟩ (.int .u64 t762))) := ⟨by repeat (first | (with_reducible first | exact HB.out | apply below_alloc | apply pw_below_drewN | apply below_drew1 | refine below_set ?_ GE763.out) | exact HB.out)⟩
 (try clear BK763)
 (try clear HB)
 generalize (((w16.setCell ⟨gb763, 0, none⟩ (.int .i64 t760)).setCell ⟨gb763, 1, none⟩ (.int .i64 t761)).setCell ⟨gb763, 2, none⟩ (.int .u64 t762)) = w18 at n0_ n1_ ⊢
 have BK763 := n0_
 have HB := n1_
 clear n0_ n1_
 refine nx2_ (blk_drew BK763.out) (below_drew1 HB.out) ?_
 clear BK763 HB
 intro BK763 HB
 refine start_ (n := 7) (S := fun w' => w'.cell? ⟨gb763, 0, none⟩ = some (.int .i64 t760) ∧ w'.cell? ⟨gb763, 1, none⟩ = some (.int .i64 t761) ∧ w'.cell? ⟨gb763, 2, none⟩ = some (.int .u64 t762)) (ds := []) (bv 7 0) (by kernel_rfl) rfl rfl ⟨(blk_cell BK763.out 0).trans rfl, (blk_cell BK763.out 1).trans rfl, (blk_cell BK763.out 2).trans rfl⟩ (fun hHeld => ?_)
 generalize w18.drew = w19 at BK763 HB hHeld ⊢
 refine pure_ (i := 0) (N := some 32) (v := ?_) (a' := ?_) (bv 7 1) rfl rfl (by kernel_rfl) (fun _ _ _ h => h) (Or.inl ⟨by rfl, ?_⟩) ?_ ?_
 rotate_left
 ·intro w'
  go_simp
  with_reducible rfl
 rotate_left
 ·simp only [Act.put, s1_, s2_, s3_, i64_w, i32_w]
  rfl
 refine pure_ (i := 2) (N := some 34) (v := ?_) (a' := ?_) (bv 7 5) rfl rfl (by kernel_rfl) (fun _ _ _ h => h) (Or.inl ⟨by rfl, ?_⟩) ?_ ?_
 rotate_left
 ·intro w'
  go_simp
  with_reducible rfl
 rotate_left
 ·simp only [Act.put, s1_, s2_, s3_, i64_w, i32_w]
  rfl
 refine pure_ (i := 3) (N := some 35) (v := ?_) (a' := ?_) (bv 7 13) rfl rfl (by kernel_rfl) (fun _ _ _ h => h) (Or.inl ⟨by rfl, ?_⟩) ?_ ?_
 rotate_left
 ·intro w'
  go_simp
  with_reducible rfl
 rotate_left
 ·simp only [Act.put, s1_, s2_, s3_, i64_w, i32_w]
  rfl
 refine take_ (i := 1) (N := some 33) (v := ?_) (a' := ?_) (bv 7 15) rfl rfl (by kernel_rfl) (fun _ _ _ h => h) (Or.inl ⟨by rfl, ?_⟩) hHeld ?_ ?_
 rotate_left
 ·rintro w' ⟨s0, s1, s2⟩
  go_simp
  with_reducible rfl
 rotate_left
 ·simp only [Act.put, s1_, s2_, s3_, i64_w, i32_w]
  rfl
 refine one_ (i := 4) (N := some 36) (bv 7 31) rfl rfl (by kernel_rfl) (by decide) (fun K hK => ?_)
 refine goes_ Tryd.func28 (by kernel_rfl) rfl #[.slice A3 l3.length c3, .int .i64 ji9] (by rfl) rfl rfl (by (try simp only [List.map_toArray, List.map_cons, List.map_nil]); first | done | (simp only [hji9]; rfl) | rfl | (simp only [List.length_drop, List.length_take]; rfl)) ?_
 with_reducible refine (attestorlaw05_own.calls _ _ l3 ji9 t764 _ ?side1 ?side2 A10.out).mono ?_
 (case side1 => exact cU_ (Kd.C_below HR3.out HB.out))
 (case side2 => exact HC3.out)
 rintro e w20 ⟨v765, rfl, ho0, hb⟩
 refine ⟨_, rfl, ?_⟩
 refine nx3_ (Kd.R_lower ho0 (below_size (by repeat (first | (with_reducible first | exact HB.out | apply below_alloc | apply pw_below_drewN | apply below_drew1 | refine below_set ?_ GE763.out) | exact HB.out)))) (blk_below (g := gb763) (o := .cells #[.int .i64 t760, .int .i64 t761, .int .u64 t762] 24 (0, 0)) (by (with_reducible repeat (first | refine blk_drewN ?_ _ | refine blk_drew ?_ | refine blk_alloc ?_ _)); exact BK763.out) hb) (below_step (by repeat (first | (with_reducible first | exact HB.out | apply below_alloc | apply pw_below_drewN | apply below_drew1 | refine below_set ?_ GE763.out) | exact HB.out)) hb) ?_
 clear BK763 HB
 intro HO766 BK763 HB
 (try clear hb)
 (try clear hb2)
 (try clear hk)
 (try clear hi)
 (try clear ho0)
 obtain ⟨Ao21, co21, eo21⟩ := Kd.R_slice HO766.out
 (first | subst eo21 | (injection eo21 with f1_ f2_ f3_; have f4_ := f1_.symm; have f5_ := f3_.symm; clear f1_ f2_ f3_; subst f4_; subst f5_))
 refine hK.out _ _ ⟨(blk_cell BK763.out 0).trans rfl, (blk_cell BK763.out 1).trans rfl, (blk_cell BK763.out 2).trans rfl⟩ (fun hHeld => ?_)
 clear hK K
 refine norm_ (a' := ?_) ?_ ?_
 rotate_left
 ·show Act.put _ (some 36) _ = _
  simp only [Act.put, s1_, s2_, s3_, i64_w, i32_w]
  rfl
 refine one_ (i := 5) (N := some 37) (bv 7 63) rfl rfl (by kernel_rfl) (by decide) (fun K hK => ?_)
 refine goes_ Tryd.func34 (by kernel_rfl) rfl #[.int .i64 t760, .slice Ao21 t764.length co21] (by rfl) rfl rfl ga_ ?_
 with_reducible refine (poly_Normal.calls k t760 _ _ t764 t767 _ ?side1 ?side2 ?side3 A11.out).mono ?_
 (case side1 => repeat (first | with_reducible exact HG.out | with_reducible exact (Fld.below HG.out HB.out) | exact (Fld.below HG.out (by repeat (first | (with_reducible first | exact HB.out | apply below_alloc | apply pw_below_drewN | apply below_drew1 | refine below_set ?_ GE763.out) | exact HB.out))) | (with_reducible refine Fld.alloc ?_ _) | (with_reducible refine Fld.drewN ?_ _) | (with_reducible refine Fld.drew ?_)))
 (case side2 => exact cU_ ((Kd.R_reads' HO766.out).2.2))
 (case side3 => exact (Kd.R_reads' HO766.out).2.1)
 rintro e w22 ⟨v768, rfl, ho0, hb⟩
 refine ⟨_, rfl, ?_⟩
 refine nx4_ (Kd.R_elder' (rU_ HO766.out) (Kd.R_base ho0) hb) (Kd.R_lower (Kd.R_new' ho0 (Kd.R_lt (rU_ HO766.out))) (below_size (by repeat (first | (with_reducible first | exact HB.out | apply below_alloc | apply pw_below_drewN | apply below_drew1 | refine below_set ?_ GE763.out) | exact HB.out)))) (blk_below (g := gb763) (o := .cells #[.int .i64 t760, .int .i64 t761, .int .u64 t762] 24 (0, 0)) (by (with_reducible repeat (first | refine blk_drewN ?_ _ | refine blk_drew ?_ | refine blk_alloc ?_ _)); exact BK763.out) hb) (below_step (by repeat (first | (with_reducible first | exact HB.out | apply below_alloc | apply pw_below_drewN | apply below_drew1 | refine below_set ?_ GE763.out) | exact HB.out)) hb) ?_
 clear HO766 BK763 HB
 intro HO766 HO769 BK763 HB
 (try clear hb)
 (try clear hb2)
 (try clear hk)
 (try clear hi)
 (try clear ho0)
 refine hK.out _ _ ⟨(blk_cell BK763.out 0).trans rfl, (blk_cell BK763.out 1).trans rfl, (blk_cell BK763.out 2).trans rfl⟩ (fun hHeld => ?_)
 clear hK K
 refine norm_ (a' := ?_) ?_ ?_
 rotate_left
 ·show Act.put _ (some 37) _ = _
  simp only [Act.put, s1_, s2_, s3_, i64_w, i32_w]
  rfl
 refine pure_ (i := 6) (N := some 3) (v := ?_) (a' := ?_) (bv 7 127) rfl rfl (by kernel_rfl) (fun _ _ _ h => h) (Or.inl ⟨by rfl, ?_⟩) ?_ ?_
 rotate_left
 ·intro w'
  go_simp
  with_reducible rfl
 rotate_left
 ·simp only [Act.put, s1_, s2_, s3_, i64_w, i32_w]
  rfl
 refine done_ (by kernel_rfl) ?_
 obtain ⟨Ao23, co23, eo23⟩ := Kd.R_slice HO769.out
 subst eo23
 have hcz24_0 : w22.cell? ⟨gb763, 0, none⟩ = some (.int .i64 t760) := (blk_cell BK763.out 0).trans rfl
 have hcz24_1 : w22.cell? ⟨gb763, 1, none⟩ = some (.int .i64 t761) := (blk_cell BK763.out 1).trans rfl
 have hcz24_2 : w22.cell? ⟨gb763, 2, none⟩ = some (.int .u64 t762) := (blk_cell BK763.out 2).trans rfl
 have hfz24_0 := blk_frozen BK763.out 0
 have hfz24_1 := blk_frozen BK763.out 1
 have hfz24_2 := blk_frozen BK763.out 2
 try go_wp2_with (first | ((with_reducible refine gate_callee (f := 35) rfl ?_); refine gl_ (some 42) Tryd.func35 #[.agg #[.int .i64 t760, .int .i64 t761, .int .u64 t762], .slice Ao23 t767.length co23] ?_; (with_reducible refine (attestorlaw05_word.calls k t760 t761 t762 _ _ t767 t770 _ ?side1 ?side2 ?side3 A12.out).mono ?_); (case side1 => repeat (first | with_reducible exact HG.out | with_reducible exact (Fld.below HG.out HB.out) | exact (Fld.below HG.out (by repeat (first | (with_reducible first | exact HB.out | apply below_alloc | apply pw_below_drewN | apply below_drew1 | refine below_set ?_ GE763.out) | exact HB.out))) | (with_reducible refine Fld.alloc ?_ _) | (with_reducible refine Fld.drewN ?_ _) | (with_reducible refine Fld.drew ?_))); (case side2 => exact cU_ ((Kd.R_reads' HO769.out).2.2)); (case side3 => exact (Kd.R_reads' HO769.out).2.1); rintro e w25 ⟨v771, rfl, ho0, hb⟩; refine ⟨_, rfl, ?_⟩; refine nx5_ (Kd.R_elder' (rU_ HO766.out) (Kd.R_base ho0) hb) (Kd.R_elder' (rU_ HO769.out) (Kd.R_base ho0) hb) (Kd.R_lower (Kd.R_new' (Kd.R_new' ho0 (Kd.R_lt (rU_ HO766.out))) (Kd.R_lt (rU_ HO769.out))) (below_size (by repeat (first | (with_reducible first | exact HB.out | apply below_alloc | apply pw_below_drewN | apply below_drew1 | refine below_set ?_ GE763.out) | exact HB.out)))) (blk_below (g := gb763) (o := .cells #[.int .i64 t760, .int .i64 t761, .int .u64 t762] 24 (0, 0)) (by (with_reducible repeat (first | refine blk_drewN ?_ _ | refine blk_drew ?_ | refine blk_alloc ?_ _)); exact BK763.out) hb) (below_step (by repeat (first | (with_reducible first | exact HB.out | apply below_alloc | apply pw_below_drewN | apply below_drew1 | refine below_set ?_ GE763.out) | exact HB.out)) hb) ?_; clear HO766 HO769 BK763 HB; intro HO766 HO769 HO772 BK763 HB; clear hb ho0) | ((with_reducible refine gate_dst (N := 44) rfl ?_); refine Kd.R_make Kd.bool _ 4 rfl (N := 44) rfl 43 _ _ rfl ji9 ?hx ?hy Tryd.underlying43 (.bool false) 1 info4 rfl (by decide) (by omega) false (ok := fun _ => True) (okp := fun _ => True) rfl (fun _ hk => hk) trivial od_ (Nat.le_trans (Nat.mul_le_mul_right _ (od_ : ji9.toNat ≤ 281474976710656)) (by omega)) (Below.refl _ _) (Nat.le_refl _) ?_; (case hx => first | rfl | (simp only [hji7, hji9]; rfl)); (case hy => first | rfl | (simp only [hji7, hji9]; rfl)); intro v774 w26 ho27 hb hg_ hnew_; clear hg_ hnew_; (first | rw [← Ny773.out] at ho27 | (simp only [Int.reduceToNat] at ho27; rw [← Ny773.out] at ho27)); refine nx6_ (Kd.R_below (rU_ HO766.out) hb) (Kd.R_below (rU_ HO769.out) hb) (Kd.R_below (rU_ HO772.out) hb) (Kd.R_lower ho27 (below_size (by repeat (first | (with_reducible first | exact HB.out | apply below_alloc | apply pw_below_drewN | apply below_drew1 | refine below_set ?_ GE763.out) | exact HB.out)))) (blk_below (g := gb763) (o := .cells #[.int .i64 t760, .int .i64 t761, .int .u64 t762] 24 (0, 0)) (by (with_reducible repeat (first | refine blk_drewN ?_ _ | refine blk_drew ?_ | refine blk_alloc ?_ _)); exact BK763.out) hb) (below_step (by repeat (first | (with_reducible first | exact HB.out | apply below_alloc | apply pw_below_drewN | apply below_drew1 | refine below_set ?_ GE763.out) | exact HB.out)) hb) ?_; clear HO766 HO769 HO772 BK763 HB; intro HO766 HO769 HO772 HO775 BK763 HB; clear hb ho27))
 go_loopg [16, 17] k (fun kq v16 v17 w' => ∃ (x15_1 : List Bool) (x16_1 : Int) (x17_1 : Int), v16 = .int .i64 x16_1 ∧ v17 = .int .i64 x17_1 ∧ Aside0 (attestorlaw05_CodeErasures.l0 kq l4 ji9 (t767.length : Int) t770 x15_1 x16_1 x17_1 t760 t761 t762 = some r) ∧ Aside0 (kq ≤ k) ∧ Aside0 (Kd.R (Kd.int .u64) 22 w' w.heap.size (fun _ => True) v771 t770) ∧ Aside0 (Kd.R Kd.bool 4 w' w.heap.size (fun _ => True) v774 x15_1) ∧ Aside0 (w'.heap[gb763]? = some (.cells #[.int .i64 t760, .int .i64 t761, .int .u64 t762] 24 (0, 0))) ∧ Aside0 (Below w.heap.size w w'))
 case atStart => exact ⟨(y773), (0), (0), gb_, gb_, H', ⟨Nat.le_refl _⟩, ⟨Kd.R_mono (rU_ HO772.out) (fun _ hk => trivial)⟩, ⟨rU_ HO775.out⟩, ⟨by (with_reducible repeat (first | refine blk_drewN ?_ _ | refine blk_drew ?_ | refine blk_alloc ?_ _)); exact BK763.out⟩, ⟨by repeat (first | (with_reducible first | exact HB.out | apply below_alloc | apply pw_below_drewN | apply below_drew1 | refine below_set ?_ GE763.out) | exact HB.out)⟩⟩
 case round =>
  clear H'
  (try clear c1); (try clear c2); (try clear p2); (try clear c3); (try clear c4); (try clear p6); (try clear c7); (try clear c8); (try clear c8b0); (try clear c8b1); (try clear c13); (try clear c13b0); (try clear c13b1); (try clear c14); (try clear c14b0); (try clear c14b1); (try clear hcz17_0); (try clear hcz17_1); (try clear hcz17_2); (try clear hcz24_0); (try clear hcz24_1); (try clear hcz24_2); (try clear hfz17_0); (try clear hfz17_1); (try clear hfz17_2); (try clear hfz24_0); (try clear hfz24_1); (try clear hfz24_2)
  obtain ⟨x15_1, x16_1, x17_1, rfl, rfl, HA, HK1, HO_14, HO_15, BK763, HB⟩ := hrel
  cases gk with
  | zero => exact absurd HA.out (by simp [attestorlaw05_CodeErasures.l0])
  | succ k1 =>
   have H := HA.out
   clear HA
   simp only [attestorlaw05_CodeErasures.l0] at H
   by_cases c28 : x17_1 < ji9
   ·rw [if_pos c28] at H
    have c28b0 := decide_eq_true c28
    clear c28
    by_cases c29 : x17_1 ≥ (l4.length : Int)
    ·rw [if_pos c29] at H
     have c29b0 : decide ((l4.length : Int) ≤ x17_1) = true := decide_eq_true c29
     clear c29
     obtain ⟨c30, H⟩ : (0 ≤ x17_1) ∧ _ := it_ H
     have c30b0 := decide_eq_true c30
     clear c30
     obtain ⟨c31, H⟩ : (x17_1 < (x15_1.length : Int)) ∧ _ := it_ H
     have c31b0 := decide_eq_true c31
     clear c31
     obtain ⟨y776, hy776⟩ : ∃ y_ : List Bool, y_ = (x15_1.set (x17_1 : Int).toNat true) := ⟨_, rfl⟩
     replace H : (if rdOf false y776 x17_1 = true then (attestorlaw05_CodeErasures.l0 k1 l4 ji9 (t767.length : Int) t770 y776 (wrap64 (x16_1 + 1)) (wrap64 (x17_1 + 1)) t760 t761 t762) else (attestorlaw05_CodeErasures.l0 k1 l4 ji9 (t767.length : Int) t770 y776 x16_1 (wrap64 (x17_1 + 1)) t760 t761 t762)) = some r := by first | (rw [hy776]; with_reducible exact H) | (have H2_ := (Option.bind_some _ _).symm.trans H; rw [hy776]; with_reducible exact H2_) | (have H2_ := (Option.bind_some _ _).symm.trans H; with_reducible exact H2_) | with_reducible exact H | (rw [hy776]; exact H) | exact H
     have Ny776 := ak hy776
     clear hy776
     obtain ⟨bq33, hbq33⟩ : ∃ b_ : Bool, b_ = (rdOf false y776 x17_1) := ⟨_, rfl⟩
     replace H : (if bq33 = true then (attestorlaw05_CodeErasures.l0 k1 l4 ji9 (t767.length : Int) t770 y776 (wrap64 (x16_1 + 1)) (wrap64 (x17_1 + 1)) t760 t761 t762) else (attestorlaw05_CodeErasures.l0 k1 l4 ji9 (t767.length : Int) t770 y776 x16_1 (wrap64 (x17_1 + 1)) t760 t761 t762)) = some r := by rw [← hbq33] at H; exact H
     have Nbq33 := ak hbq33
     clear hbq33
     by_cases c34 : bq33 = true
     ·subst c34
      rw [if_pos rfl] at H
      have H' := ak H
      clear H
      have p32 : 0 ≤ (x17_1 : Int) := od_
      have q32 : (x17_1 : Int) < ((x15_1.length : Int) : Int) := od_
      obtain ⟨go32, co32, eo32, gb32, gl32, cl32, HG32⟩ := Kd.R_form HO_15.out (by omega)
      (first | cases eo32 | (injection eo32 with ea_ en_ ec_; (first | subst ea_ | (injection ea_ with ea_; subst ea_)); subst ec_; clear en_))
      have GB32 := ak gb32
      have GG32 := ak HG32
      clear gb32 gl32 HG32
      obtain ⟨hx32_0, hf32_0⟩ := Kd.R_celln false HO_15.out (x17_1 : Int) p32 q32
      replace p32 := eq_true p32
      replace q32 := eq_true q32
      have HP35 := Kd.R_putg HO_15.out (x17_1 : Int) true
      go_wp2_with (first | ((with_reducible refine gate_store (t := 4) (p := 63) rfl ?_); refine store_event (t := 4) (p := 63) (v := ?vo_w36) (w1 := (wr.setCell ⟨go32, (x17_1 : Int).toNat, none⟩ (.bool true))) ?hg ?ho ?hn ?hr ?_; (case ho => rfl); (case hg => rfl); (case hn => rfl); (case hr => first | (go_simp; done) | (go_simp; rfl)); intro w36 hw; have hg : wr.grownBy w36 (some go32) := (by rw [hw]; exact HP35.2); have hp_ : Kd.R Kd.bool 4 w36 w.heap.size (fun _ => True) (.slice (some ⟨go32, 0, none⟩) x15_1.length co32) y776 := (by rw [hw, Ny776.out]; exact HP35.1); clear HP35; refine nx4_ (Kd.R_over' (v := (.slice (some ⟨go32, 0, none⟩) x15_1.length co32)) (rU_ HO_14.out) (Kd.R_typed HO_15.out) (by decide) hg) (hp_) (blk_grown (g := gb763) (o := .cells #[.int .i64 t760, .int .i64 t761, .int .u64 t762] 24 (0, 0)) (by (with_reducible repeat (first | refine blk_drewN ?_ _ | refine blk_drew ?_ | refine blk_alloc ?_ _)); exact BK763.out) hg (Kd.R_ne HO_15.out BK763.out (by decide))) ((by rw [hw]; exact below_set (HB.out) GB32.out : Below w.heap.size w w36)) ?_; clear HO_14 HO_15 BK763 HB; intro HO_14 HO_15 BK763 HB; clear hg hw hp_; have p777 : 0 ≤ (x17_1 : Int) := od_; have q777 : x17_1 < (y776.length : Int) := (by have h_ : (x17_1 : Int) < ((x15_1.length : Int) : Int) := od_; first | (have e_ := (Kd.R_reads' HO_15.out).1; omega) | simpa only [Ny776.out, List.length_set] using h_); have ql777 : ((x17_1 : Int) < ((x15_1.length : Int) : Int)) = True := eq_true od_; obtain ⟨ad777, e777, hx777_0⟩ := Kd.at_bool (Kd.R_reads' HO_15.out).2.2 x17_1 p777 q777; (try rw [← Nbq33.out] at hx777_0); obtain rfl : (⟨go32, 0, none⟩ : Addr) = ad777 := (by injection e777); (first | simp only [add_plain] at hx777_0 | simp only [add_at] at hx777_0 | simp only [Addr.add, Nat.zero_add] at hx777_0 | skip); replace p777 := eq_true p777; replace q777 := eq_true q777))
      go_roundg k1
      case measure => have := HK1.out; omega
      case rel => exact ⟨(y776), (wrap64 (x16_1 + 1)), (wrap64 (x17_1 + 1)), gb_, gb_, H', ⟨by have := HK1.out; omega⟩, ⟨rU_ HO_14.out⟩, ⟨rU_ HO_15.out⟩, ⟨by (with_reducible repeat (first | refine blk_drewN ?_ _ | refine blk_drew ?_ | refine blk_alloc ?_ _)); exact BK763.out⟩, ⟨by repeat (first | (with_reducible first | exact HB.out | apply below_alloc | apply pw_below_drewN | apply below_drew1 | refine below_set ?_ GE763.out) | exact HB.out)⟩⟩
     ·replace c34 := Bool.eq_false_iff.mpr c34
      subst c34
      rw [if_neg (show ¬ (false = true) by decide)] at H
      have H' := ak H
      clear H
      have p32 : 0 ≤ (x17_1 : Int) := od_
      have q32 : (x17_1 : Int) < ((x15_1.length : Int) : Int) := od_
      obtain ⟨go32, co32, eo32, gb32, gl32, cl32, HG32⟩ := Kd.R_form HO_15.out (by omega)
      (first | cases eo32 | (injection eo32 with ea_ en_ ec_; (first | subst ea_ | (injection ea_ with ea_; subst ea_)); subst ec_; clear en_))
      have GB32 := ak gb32
      have GG32 := ak HG32
      clear gb32 gl32 HG32
      obtain ⟨hx32_0, hf32_0⟩ := Kd.R_celln false HO_15.out (x17_1 : Int) p32 q32
      replace p32 := eq_true p32
      replace q32 := eq_true q32
      have HP37 := Kd.R_putg HO_15.out (x17_1 : Int) true
      go_wp2_with (first | ((with_reducible refine gate_store (t := 4) (p := 63) rfl ?_); refine store_event (t := 4) (p := 63) (v := ?vo_w38) (w1 := (wr.setCell ⟨go32, (x17_1 : Int).toNat, none⟩ (.bool true))) ?hg ?ho ?hn ?hr ?_; (case ho => rfl); (case hg => rfl); (case hn => rfl); (case hr => first | (go_simp; done) | (go_simp; rfl)); intro w38 hw; have hg : wr.grownBy w38 (some go32) := (by rw [hw]; exact HP37.2); have hp_ : Kd.R Kd.bool 4 w38 w.heap.size (fun _ => True) (.slice (some ⟨go32, 0, none⟩) x15_1.length co32) y776 := (by rw [hw, Ny776.out]; exact HP37.1); clear HP37; refine nx4_ (Kd.R_over' (v := (.slice (some ⟨go32, 0, none⟩) x15_1.length co32)) (rU_ HO_14.out) (Kd.R_typed HO_15.out) (by decide) hg) (hp_) (blk_grown (g := gb763) (o := .cells #[.int .i64 t760, .int .i64 t761, .int .u64 t762] 24 (0, 0)) (by (with_reducible repeat (first | refine blk_drewN ?_ _ | refine blk_drew ?_ | refine blk_alloc ?_ _)); exact BK763.out) hg (Kd.R_ne HO_15.out BK763.out (by decide))) ((by rw [hw]; exact below_set (HB.out) GB32.out : Below w.heap.size w w38)) ?_; clear HO_14 HO_15 BK763 HB; intro HO_14 HO_15 BK763 HB; clear hg hw hp_; have p777 : 0 ≤ (x17_1 : Int) := od_; have q777 : x17_1 < (y776.length : Int) := (by have h_ : (x17_1 : Int) < ((x15_1.length : Int) : Int) := od_; first | (have e_ := (Kd.R_reads' HO_15.out).1; omega) | simpa only [Ny776.out, List.length_set] using h_); have ql777 : ((x17_1 : Int) < ((x15_1.length : Int) : Int)) = True := eq_true od_; obtain ⟨ad777, e777, hx777_0⟩ := Kd.at_bool (Kd.R_reads' HO_15.out).2.2 x17_1 p777 q777; (try rw [← Nbq33.out] at hx777_0); obtain rfl : (⟨go32, 0, none⟩ : Addr) = ad777 := (by injection e777); (first | simp only [add_plain] at hx777_0 | simp only [add_at] at hx777_0 | simp only [Addr.add, Nat.zero_add] at hx777_0 | skip); replace p777 := eq_true p777; replace q777 := eq_true q777))
      go_roundg k1
      case measure => have := HK1.out; omega
      case rel => exact ⟨(y776), (x16_1), (wrap64 (x17_1 + 1)), gb_, gb_, H', ⟨by have := HK1.out; omega⟩, ⟨rU_ HO_14.out⟩, ⟨rU_ HO_15.out⟩, ⟨by (with_reducible repeat (first | refine blk_drewN ?_ _ | refine blk_drew ?_ | refine blk_alloc ?_ _)); exact BK763.out⟩, ⟨by repeat (first | (with_reducible first | exact HB.out | apply below_alloc | apply pw_below_drewN | apply below_drew1 | refine below_set ?_ GE763.out) | exact HB.out)⟩⟩
    ·rw [if_neg c29] at H
     have c29b0 : decide ((l4.length : Int) ≤ x17_1) = false := decide_eq_false c29
     clear c29
     obtain ⟨c39, H⟩ : (0 ≤ x17_1) ∧ _ := it_ H
     have c39b0 := decide_eq_true c39
     clear c39
     obtain ⟨c40, H⟩ : (x17_1 < (l4.length : Int)) ∧ _ := it_ H
     have c40b0 := decide_eq_true c40
     clear c40
     obtain ⟨c41, H⟩ : (x17_1 < (x15_1.length : Int)) ∧ _ := it_ H
     have c41b0 := decide_eq_true c41
     clear c41
     obtain ⟨y779, hy779⟩ : ∃ y_ : List Bool, y_ = (x15_1.set (x17_1 : Int).toNat (!(rdOf false l4 x17_1))) := ⟨_, rfl⟩
     replace H : (if rdOf false y779 x17_1 = true then (attestorlaw05_CodeErasures.l0 k1 l4 ji9 (t767.length : Int) t770 y779 (wrap64 (x16_1 + 1)) (wrap64 (x17_1 + 1)) t760 t761 t762) else (attestorlaw05_CodeErasures.l0 k1 l4 ji9 (t767.length : Int) t770 y779 x16_1 (wrap64 (x17_1 + 1)) t760 t761 t762)) = some r := by first | (rw [hy779]; with_reducible exact H) | (have H2_ := (Option.bind_some _ _).symm.trans H; rw [hy779]; with_reducible exact H2_) | (have H2_ := (Option.bind_some _ _).symm.trans H; with_reducible exact H2_) | with_reducible exact H | (rw [hy779]; exact H) | exact H
     have Ny779 := ak hy779
     clear hy779
     obtain ⟨bq43, hbq43⟩ : ∃ b_ : Bool, b_ = (rdOf false y779 x17_1) := ⟨_, rfl⟩
     replace H : (if bq43 = true then (attestorlaw05_CodeErasures.l0 k1 l4 ji9 (t767.length : Int) t770 y779 (wrap64 (x16_1 + 1)) (wrap64 (x17_1 + 1)) t760 t761 t762) else (attestorlaw05_CodeErasures.l0 k1 l4 ji9 (t767.length : Int) t770 y779 x16_1 (wrap64 (x17_1 + 1)) t760 t761 t762)) = some r := by rw [← hbq43] at H; exact H
     have Nbq43 := ak hbq43
     clear hbq43
     by_cases c44 : bq43 = true
     ·subst c44
      rw [if_pos rfl] at H
      have H' := ak H
      clear H
      have p778 : 0 ≤ (x17_1 : Int) := od_
      have q778 : x17_1 < (l4.length : Int) := od_
      obtain ⟨ad778, e778, hx778_0⟩ := Kd.at_bool HR4.out x17_1 p778 q778
      (try rw [← Nbq43.out] at hx778_0)
      cases e778
      replace hx778_0 := (HB.out.cell (World.block_lt_of_cell? w _ hx778_0)).trans hx778_0
      replace p778 := eq_true p778
      replace q778 := eq_true q778
      have p42 : 0 ≤ (x17_1 : Int) := od_
      have q42 : (x17_1 : Int) < ((x15_1.length : Int) : Int) := od_
      obtain ⟨go42, co42, eo42, gb42, gl42, cl42, HG42⟩ := Kd.R_form HO_15.out (by omega)
      (first | cases eo42 | (injection eo42 with ea_ en_ ec_; (first | subst ea_ | (injection ea_ with ea_; subst ea_)); subst ec_; clear en_))
      have GB42 := ak gb42
      have GG42 := ak HG42
      clear gb42 gl42 HG42
      obtain ⟨hx42_0, hf42_0⟩ := Kd.R_celln false HO_15.out (x17_1 : Int) p42 q42
      replace p42 := eq_true p42
      replace q42 := eq_true q42
      have HP45 := Kd.R_putg HO_15.out (x17_1 : Int) (!(rdOf false l4 x17_1))
      go_wp2_with (first | ((with_reducible refine gate_store (t := 4) (p := 63) rfl ?_); refine store_event (t := 4) (p := 63) (v := ?vo_w46) (w1 := (wr.setCell ⟨go42, (x17_1 : Int).toNat, none⟩ (.bool (!(rdOf false l4 x17_1))))) ?hg ?ho ?hn ?hr ?_; (case ho => rfl); (case hg => rfl); (case hn => rfl); (case hr => first | (go_simp; done) | (go_simp; rfl)); intro w46 hw; have hg : wr.grownBy w46 (some go42) := (by rw [hw]; exact HP45.2); have hp_ : Kd.R Kd.bool 4 w46 w.heap.size (fun _ => True) (.slice (some ⟨go42, 0, none⟩) x15_1.length co42) y779 := (by rw [hw, Ny779.out]; exact HP45.1); clear HP45; refine nx4_ (Kd.R_over' (v := (.slice (some ⟨go42, 0, none⟩) x15_1.length co42)) (rU_ HO_14.out) (Kd.R_typed HO_15.out) (by decide) hg) (hp_) (blk_grown (g := gb763) (o := .cells #[.int .i64 t760, .int .i64 t761, .int .u64 t762] 24 (0, 0)) (by (with_reducible repeat (first | refine blk_drewN ?_ _ | refine blk_drew ?_ | refine blk_alloc ?_ _)); exact BK763.out) hg (Kd.R_ne HO_15.out BK763.out (by decide))) ((by rw [hw]; exact below_set (HB.out) GB42.out : Below w.heap.size w w46)) ?_; clear HO_14 HO_15 BK763 HB; intro HO_14 HO_15 BK763 HB; clear hg hw hp_; have p780 : 0 ≤ (x17_1 : Int) := od_; have q780 : x17_1 < (y779.length : Int) := (by have h_ : (x17_1 : Int) < ((x15_1.length : Int) : Int) := od_; first | (have e_ := (Kd.R_reads' HO_15.out).1; omega) | simpa only [Ny779.out, List.length_set] using h_); have ql780 : ((x17_1 : Int) < ((x15_1.length : Int) : Int)) = True := eq_true od_; obtain ⟨ad780, e780, hx780_0⟩ := Kd.at_bool (Kd.R_reads' HO_15.out).2.2 x17_1 p780 q780; (try rw [← Nbq43.out] at hx780_0); obtain rfl : (⟨go42, 0, none⟩ : Addr) = ad780 := (by injection e780); (first | simp only [add_plain] at hx780_0 | simp only [add_at] at hx780_0 | simp only [Addr.add, Nat.zero_add] at hx780_0 | skip); replace p780 := eq_true p780; replace q780 := eq_true q780))
      go_roundg k1
      case measure => have := HK1.out; omega
      case rel => exact ⟨(y779), (wrap64 (x16_1 + 1)), (wrap64 (x17_1 + 1)), gb_, gb_, H', ⟨by have := HK1.out; omega⟩, ⟨rU_ HO_14.out⟩, ⟨rU_ HO_15.out⟩, ⟨by (with_reducible repeat (first | refine blk_drewN ?_ _ | refine blk_drew ?_ | refine blk_alloc ?_ _)); exact BK763.out⟩, ⟨by repeat (first | (with_reducible first | exact HB.out | apply below_alloc | apply pw_below_drewN | apply below_drew1 | refine below_set ?_ GE763.out) | exact HB.out)⟩⟩
     ·replace c44 := Bool.eq_false_iff.mpr c44
      subst c44
      rw [if_neg (show ¬ (false = true) by decide)] at H
      have H' := ak H
      clear H
      have p778 : 0 ≤ (x17_1 : Int) := od_
      have q778 : x17_1 < (l4.length : Int) := od_
      obtain ⟨ad778, e778, hx778_0⟩ := Kd.at_bool HR4.out x17_1 p778 q778
      (try rw [← Nbq43.out] at hx778_0)
      cases e778
      replace hx778_0 := (HB.out.cell (World.block_lt_of_cell? w _ hx778_0)).trans hx778_0
      replace p778 := eq_true p778
      replace q778 := eq_true q778
      have p42 : 0 ≤ (x17_1 : Int) := od_
      have q42 : (x17_1 : Int) < ((x15_1.length : Int) : Int) := od_
      obtain ⟨go42, co42, eo42, gb42, gl42, cl42, HG42⟩ := Kd.R_form HO_15.out (by omega)
      (first | cases eo42 | (injection eo42 with ea_ en_ ec_; (first | subst ea_ | (injection ea_ with ea_; subst ea_)); subst ec_; clear en_))
      have GB42 := ak gb42
      have GG42 := ak HG42
      clear gb42 gl42 HG42
      obtain ⟨hx42_0, hf42_0⟩ := Kd.R_celln false HO_15.out (x17_1 : Int) p42 q42
      replace p42 := eq_true p42
      replace q42 := eq_true q42
      have HP47 := Kd.R_putg HO_15.out (x17_1 : Int) (!(rdOf false l4 x17_1))
      go_wp2_with (first | ((with_reducible refine gate_store (t := 4) (p := 63) rfl ?_); refine store_event (t := 4) (p := 63) (v := ?vo_w48) (w1 := (wr.setCell ⟨go42, (x17_1 : Int).toNat, none⟩ (.bool (!(rdOf false l4 x17_1))))) ?hg ?ho ?hn ?hr ?_; (case ho => rfl); (case hg => rfl); (case hn => rfl); (case hr => first | (go_simp; done) | (go_simp; rfl)); intro w48 hw; have hg : wr.grownBy w48 (some go42) := (by rw [hw]; exact HP47.2); have hp_ : Kd.R Kd.bool 4 w48 w.heap.size (fun _ => True) (.slice (some ⟨go42, 0, none⟩) x15_1.length co42) y779 := (by rw [hw, Ny779.out]; exact HP47.1); clear HP47; refine nx4_ (Kd.R_over' (v := (.slice (some ⟨go42, 0, none⟩) x15_1.length co42)) (rU_ HO_14.out) (Kd.R_typed HO_15.out) (by decide) hg) (hp_) (blk_grown (g := gb763) (o := .cells #[.int .i64 t760, .int .i64 t761, .int .u64 t762] 24 (0, 0)) (by (with_reducible repeat (first | refine blk_drewN ?_ _ | refine blk_drew ?_ | refine blk_alloc ?_ _)); exact BK763.out) hg (Kd.R_ne HO_15.out BK763.out (by decide))) ((by rw [hw]; exact below_set (HB.out) GB42.out : Below w.heap.size w w48)) ?_; clear HO_14 HO_15 BK763 HB; intro HO_14 HO_15 BK763 HB; clear hg hw hp_; have p780 : 0 ≤ (x17_1 : Int) := od_; have q780 : x17_1 < (y779.length : Int) := (by have h_ : (x17_1 : Int) < ((x15_1.length : Int) : Int) := od_; first | (have e_ := (Kd.R_reads' HO_15.out).1; omega) | simpa only [Ny779.out, List.length_set] using h_); have ql780 : ((x17_1 : Int) < ((x15_1.length : Int) : Int)) = True := eq_true od_; obtain ⟨ad780, e780, hx780_0⟩ := Kd.at_bool (Kd.R_reads' HO_15.out).2.2 x17_1 p780 q780; (try rw [← Nbq43.out] at hx780_0); obtain rfl : (⟨go42, 0, none⟩ : Addr) = ad780 := (by injection e780); (first | simp only [add_plain] at hx780_0 | simp only [add_at] at hx780_0 | simp only [Addr.add, Nat.zero_add] at hx780_0 | skip); replace p780 := eq_true p780; replace q780 := eq_true q780))
      go_roundg k1
      case measure => have := HK1.out; omega
      case rel => exact ⟨(y779), (x16_1), (wrap64 (x17_1 + 1)), gb_, gb_, H', ⟨by have := HK1.out; omega⟩, ⟨rU_ HO_14.out⟩, ⟨rU_ HO_15.out⟩, ⟨by (with_reducible repeat (first | refine blk_drewN ?_ _ | refine blk_drew ?_ | refine blk_alloc ?_ _)); exact BK763.out⟩, ⟨by repeat (first | (with_reducible first | exact HB.out | apply below_alloc | apply pw_below_drewN | apply below_drew1 | refine below_set ?_ GE763.out) | exact HB.out)⟩⟩
   ·rw [if_neg c28] at H
    have c28b0 := decide_eq_false c28
    clear c28
    have HC49 := ak H
    clear H
    go_upto_block 2 with (fail)
    go_cut [16] (fun v16 wc => ∃ (kq : Nat) (x15_48 : List Bool) (x16_48 : Int), v16 = .int .i64 x16_48 ∧ Aside0 (attestorlaw05_CodeErasures.j2 kq ji9 (t767.length : Int) t770 x15_48 x16_48 t760 t761 t762 = some r) ∧ Aside0 (kq ≤ k1) ∧ Aside0 (Kd.R (Kd.int .u64) 22 wc w.heap.size (fun _ => True) v771 t770) ∧ Aside0 (Kd.R Kd.bool 4 wc w.heap.size (fun _ => True) v774 x15_48) ∧ Aside0 (wc.heap[gb763]? = some (.cells #[.int .i64 t760, .int .i64 t761, .int .u64 t762] 24 (0, 0))) ∧ Aside0 (Below w.heap.size w wc))
    case first =>
     have H := HC49.out
     clear HC49
     have H' := ak H
     clear H
     go_wp2
     go_loopg [16, 18] k1 (fun kq v16 v18 w' => ∃ (x15_2 : List Bool) (x16_2 : Int) (x18_2 : Int), v16 = .int .i64 x16_2 ∧ v18 = .int .i64 x18_2 ∧ Aside0 (attestorlaw05_CodeErasures.l1 kq ji9 (t767.length : Int) t770 x15_2 x16_2 x18_2 t760 t761 t762 = some r) ∧ Aside0 (kq ≤ k1) ∧ Aside0 (Kd.R (Kd.int .u64) 22 w' w.heap.size (fun _ => True) v771 t770) ∧ Aside0 (Kd.R Kd.bool 4 w' w.heap.size (fun _ => True) v774 x15_2) ∧ Aside0 (w'.heap[gb763]? = some (.cells #[.int .i64 t760, .int .i64 t761, .int .u64 t762] 24 (0, 0))) ∧ Aside0 (Below w.heap.size w w'))
     case atStart => exact ⟨(x15_1), (x16_1), (0), gb_, gb_, H', ⟨Nat.le_refl _⟩, ⟨rU_ HO_14.out⟩, ⟨rU_ HO_15.out⟩, ⟨by (with_reducible repeat (first | refine blk_drewN ?_ _ | refine blk_drew ?_ | refine blk_alloc ?_ _)); exact BK763.out⟩, ⟨by repeat (first | (with_reducible first | exact HB.out | apply below_alloc | apply pw_below_drewN | apply below_drew1 | refine below_set ?_ GE763.out) | exact HB.out)⟩⟩
     case round =>
      clear H'
      (try clear c1); (try clear c2); (try clear p2); (try clear c3); (try clear p3); (try clear q3); (try clear hx3); (try clear c4); (try clear p4); (try clear q4); (try clear hx4); (try clear p6); (try clear c7); (try clear p7); (try clear q7); (try clear hx7); (try clear c8); (try clear c8b0); (try clear c8b1); (try clear c13); (try clear c13b0); (try clear c13b1); (try clear c14); (try clear c14b0); (try clear c14b1); (try clear c28); (try clear c28b0); (try clear c29); (try clear c29b0); (try clear c30); (try clear c30b0); (try clear c31); (try clear c31b0); (try clear p32); (try clear q32); (try clear hx32); (try clear hf32); (try clear c33); (try clear q33); (try clear c34); (try clear c35); (try clear c39); (try clear c39b0); (try clear c40); (try clear c40b0); (try clear c41); (try clear c41b0); (try clear p42); (try clear q42); (try clear hx42); (try clear hf42); (try clear q43); (try clear c44); (try clear hcz17_0); (try clear hcz17_1); (try clear hcz17_2); (try clear hcz24_0); (try clear hcz24_1); (try clear hcz24_2); (try clear hfz17_0); (try clear hfz17_1); (try clear hfz17_2); (try clear hfz24_0); (try clear hfz24_1); (try clear hfz24_2); (try clear hx32_0); (try clear hx42_0); (try clear hx777_0); (try clear hx778_0); (try clear hx780_0); (try clear p777); (try clear p778); (try clear p780); (try clear q777); (try clear q778); (try clear q780)
      obtain ⟨x15_2, x16_2, x18_2, rfl, rfl, HA, HK2, HO_14, HO_15, BK763, HB⟩ := hrel
      cases gk with
      | zero => exact absurd HA.out (by simp [attestorlaw05_CodeErasures.l1])
      | succ k2 =>
       have H := HA.out
       clear HA
       simp only [attestorlaw05_CodeErasures.l1] at H
       by_cases c50 : x18_2 < ji9
       ·rw [if_pos c50] at H
        have c50b0 := decide_eq_true c50
        clear c50
        (first | rw [c50b0] | (simp only [i64_w, i32_w]; rw [c50b0]) | rw [c50b1] | skip)
        by_cases c51 : x16_2 < (t767.length : Int)
        ·rw [if_pos c51] at H
         have c51b0 := decide_eq_true c51
         clear c51
         obtain ⟨c52, H⟩ : (0 ≤ x18_2) ∧ _ := it_ H
         have c52b0 := decide_eq_true c52
         clear c52
         obtain ⟨c53, H⟩ : (x18_2 < (x15_2.length : Int)) ∧ _ := it_ H
         have c53b0 := decide_eq_true c53
         clear c53
         obtain ⟨bq54, hbq54⟩ : ∃ b_ : Bool, b_ = (rdOf false x15_2 x18_2) := ⟨_, rfl⟩
         replace H : (if bq54 = true then (attestorlaw05_CodeErasures.l1 k2 ji9 (t767.length : Int) t770 x15_2 x16_2 (wrap64 (x18_2 + 1)) t760 t761 t762) else (attestorlaw05_CodeErasures.l1 k2 ji9 (t767.length : Int) t770 (x15_2.set (x18_2 : Int).toNat true) (wrap64 (x16_2 + 1)) (wrap64 (x18_2 + 1)) t760 t761 t762)) = some r := by rw [← hbq54] at H; exact H
         have Nbq54 := ak hbq54
         clear hbq54
         by_cases c55 : bq54 = true
         ·subst c55
          rw [if_pos rfl] at H
          have H' := ak H
          clear H
          obtain ⟨Ao57, co57, eo57⟩ := Kd.R_slice HO_15.out
          subst eo57
          have pfr56 : 0 ≤ (x18_2 : Int) := od_
          have qfr56 : (x18_2 : Int) < ((x15_2.length : Int) : Int) := od_
          obtain ⟨gofr56, cofr56, eofr56, gbfr56, glfr56, clfr56, HGfr56⟩ := Kd.R_form HO_15.out (by omega)
          (first | cases eofr56 | (injection eofr56 with ea_ en_ ec_; (first | subst ea_ | (injection ea_ with ea_; subst ea_)); subst ec_; clear en_))
          have GBfr56 := ak gbfr56
          have GGfr56 := ak HGfr56
          clear gbfr56 glfr56 HGfr56
          clear pfr56 qfr56
          have p781 : 0 ≤ (x18_2 : Int) := od_
          have q781 : x18_2 < (x15_2.length : Int) := od_
          obtain ⟨ad781, e781, hx781_0⟩ := Kd.at_bool (Kd.R_reads' HO_15.out).2.2 x18_2 p781 q781
          (try rw [← Nbq54.out] at hx781_0)
          obtain rfl : (⟨gofr56, 0, none⟩ : Addr) = ad781 := (by injection e781)
          (first | simp only [add_plain] at hx781_0 | simp only [add_at] at hx781_0 | simp only [Addr.add, Nat.zero_add] at hx781_0 | skip)
          replace p781 := eq_true p781
          replace q781 := eq_true q781
          go_wp2
          go_roundg k2
          case measure => have := HK1.out; have := HK2.out; omega
          case rel => exact ⟨(x15_2), (x16_2), (wrap64 (x18_2 + 1)), gb_, gb_, H', ⟨by have := HK1.out; have := HK2.out; omega⟩, ⟨rU_ HO_14.out⟩, ⟨rU_ HO_15.out⟩, ⟨by (with_reducible repeat (first | refine blk_drewN ?_ _ | refine blk_drew ?_ | refine blk_alloc ?_ _)); exact BK763.out⟩, ⟨by repeat (first | (with_reducible first | exact HB.out | apply below_alloc | apply pw_below_drewN | apply below_drew1 | refine below_set ?_ GE763.out) | exact HB.out)⟩⟩
         ·replace c55 := Bool.eq_false_iff.mpr c55
          subst c55
          rw [if_neg (show ¬ (false = true) by decide)] at H
          obtain ⟨y782, hy782⟩ : ∃ y_ : List Bool, y_ = (x15_2.set (x18_2 : Int).toNat true) := ⟨_, rfl⟩
          replace H : (attestorlaw05_CodeErasures.l1 k2 ji9 (t767.length : Int) t770 y782 (wrap64 (x16_2 + 1)) (wrap64 (x18_2 + 1)) t760 t761 t762) = some r := by first | (rw [hy782]; with_reducible exact H) | (have H2_ := (Option.bind_some _ _).symm.trans H; rw [hy782]; with_reducible exact H2_) | (have H2_ := (Option.bind_some _ _).symm.trans H; with_reducible exact H2_) | with_reducible exact H | (rw [hy782]; exact H) | exact H
          have Ny782 := ak hy782
          clear hy782
          have H' := ak H
          clear H
          obtain ⟨Ao60, co60, eo60⟩ := Kd.R_slice HO_15.out
          subst eo60
          have pfr59 : 0 ≤ (x18_2 : Int) := od_
          have qfr59 : (x18_2 : Int) < ((x15_2.length : Int) : Int) := od_
          obtain ⟨gofr59, cofr59, eofr59, gbfr59, glfr59, clfr59, HGfr59⟩ := Kd.R_form HO_15.out (by omega)
          (first | cases eofr59 | (injection eofr59 with ea_ en_ ec_; (first | subst ea_ | (injection ea_ with ea_; subst ea_)); subst ec_; clear en_))
          have GBfr59 := ak gbfr59
          have GGfr59 := ak HGfr59
          clear gbfr59 glfr59 HGfr59
          clear pfr59 qfr59
          have p781 : 0 ≤ (x18_2 : Int) := od_
          have q781 : x18_2 < (x15_2.length : Int) := od_
          obtain ⟨ad781, e781, hx781_0⟩ := Kd.at_bool (Kd.R_reads' HO_15.out).2.2 x18_2 p781 q781
          (try rw [← Nbq54.out] at hx781_0)
          obtain rfl : (⟨gofr59, 0, none⟩ : Addr) = ad781 := (by injection e781)
          (first | simp only [add_plain] at hx781_0 | simp only [add_at] at hx781_0 | simp only [Addr.add, Nat.zero_add] at hx781_0 | skip)
          replace p781 := eq_true p781
          replace q781 := eq_true q781
          have p58 : 0 ≤ (x18_2 : Int) := od_
          have q58 : (x18_2 : Int) < ((x15_2.length : Int) : Int) := od_
          obtain ⟨hx58_0, hf58_0⟩ := Kd.R_celln false HO_15.out (x18_2 : Int) p58 q58
          replace p58 := eq_true p58
          replace q58 := eq_true q58
          have HP61 := Kd.R_putg HO_15.out (x18_2 : Int) true
          go_wp2_with (first | ((with_reducible refine gate_store (t := 4) (p := 87) rfl ?_); refine store_event (t := 4) (p := 87) (v := ?vo_w62) (w1 := (wr.setCell ⟨gofr59, (x18_2 : Int).toNat, none⟩ (.bool true))) ?hg ?ho ?hn ?hr ?_; (case ho => rfl); (case hg => rfl); (case hn => rfl); (case hr => first | (go_simp; done) | (go_simp; rfl)); intro w62 hw; have hg : wr.grownBy w62 (some gofr59) := (by rw [hw]; exact HP61.2); have hp_ : Kd.R Kd.bool 4 w62 w.heap.size (fun _ => True) (.slice (some ⟨gofr59, 0, none⟩) x15_2.length co60) y782 := (by rw [hw, Ny782.out]; exact HP61.1); clear HP61; refine nx4_ (Kd.R_over' (v := (.slice (some ⟨gofr59, 0, none⟩) x15_2.length co60)) (rU_ HO_14.out) (Kd.R_typed HO_15.out) (by decide) hg) (hp_) (blk_grown (g := gb763) (o := .cells #[.int .i64 t760, .int .i64 t761, .int .u64 t762] 24 (0, 0)) (by (with_reducible repeat (first | refine blk_drewN ?_ _ | refine blk_drew ?_ | refine blk_alloc ?_ _)); exact BK763.out) hg (Kd.R_ne HO_15.out BK763.out (by decide))) ((by rw [hw]; exact below_set (HB.out) GBfr59.out : Below w.heap.size w w62)) ?_; clear HO_14 HO_15 BK763 HB; intro HO_14 HO_15 BK763 HB; clear hg hw hp_))
          go_roundg k2
          case measure => have := HK1.out; have := HK2.out; omega
          case rel => exact ⟨(y782), (wrap64 (x16_2 + 1)), (wrap64 (x18_2 + 1)), gb_, gb_, H', ⟨by have := HK1.out; have := HK2.out; omega⟩, ⟨rU_ HO_14.out⟩, ⟨rU_ HO_15.out⟩, ⟨by (with_reducible repeat (first | refine blk_drewN ?_ _ | refine blk_drew ?_ | refine blk_alloc ?_ _)); exact BK763.out⟩, ⟨by repeat (first | (with_reducible first | exact HB.out | apply below_alloc | apply pw_below_drewN | apply below_drew1 | refine below_set ?_ GE763.out) | exact HB.out)⟩⟩
        ·rw [if_neg c51] at H
         have c51b0 := decide_eq_false c51
         clear c51
         have H' := ak H
         clear H
         go_wp2
         go_meet
         case rel => exact ⟨_, (x15_2), (x16_2), gb_, H', ⟨by have := HK1.out; have := HK2.out; first | omega | exact Nat.le_refl _⟩, ⟨rU_ HO_14.out⟩, ⟨rU_ HO_15.out⟩, ⟨by (with_reducible repeat (first | refine blk_drewN ?_ _ | refine blk_drew ?_ | refine blk_alloc ?_ _)); exact BK763.out⟩, ⟨by repeat (first | (with_reducible first | exact HB.out | apply below_alloc | apply pw_below_drewN | apply below_drew1 | refine below_set ?_ GE763.out) | exact HB.out)⟩⟩
       ·rw [if_neg c50] at H
        have c50b0 := decide_eq_false c50
        clear c50
        (first | rw [c50b0] | (simp only [i64_w, i32_w]; rw [c50b0]) | rw [c50b1] | skip)
        have H' := ak H
        clear H
        go_wp2
        go_meet
        case rel => exact ⟨_, (x15_2), (x16_2), gb_, H', ⟨by have := HK1.out; have := HK2.out; first | omega | exact Nat.le_refl _⟩, ⟨rU_ HO_14.out⟩, ⟨rU_ HO_15.out⟩, ⟨by (with_reducible repeat (first | refine blk_drewN ?_ _ | refine blk_drew ?_ | refine blk_alloc ?_ _)); exact BK763.out⟩, ⟨by repeat (first | (with_reducible first | exact HB.out | apply below_alloc | apply pw_below_drewN | apply below_drew1 | refine below_set ?_ GE763.out) | exact HB.out)⟩⟩
    case rest =>
     clear HC49
     (try clear c1); (try clear c2); (try clear p2); (try clear c3); (try clear p3); (try clear q3); (try clear hx3); (try clear c4); (try clear p4); (try clear q4); (try clear hx4); (try clear c5); (try clear p5); (try clear q5); (try clear hx5); (try clear hf5); (try clear p6); (try clear c7); (try clear p7); (try clear q7); (try clear hx7); (try clear c8); (try clear c8b0); (try clear c8b1); (try clear c13); (try clear c13b0); (try clear c13b1); (try clear c14); (try clear c14b0); (try clear c14b1); (try clear c28); (try clear c28b0); (try clear c29); (try clear c29b0); (try clear c30); (try clear c30b0); (try clear c31); (try clear c31b0); (try clear p32); (try clear q32); (try clear hx32); (try clear hf32); (try clear c33); (try clear q33); (try clear c34); (try clear c35); (try clear c39); (try clear c39b0); (try clear c40); (try clear c40b0); (try clear c41); (try clear c41b0); (try clear p42); (try clear q42); (try clear hx42); (try clear hf42); (try clear q43); (try clear c44); (try clear c50); (try clear c50b0); (try clear c50b1); (try clear c51); (try clear c51b0); (try clear c52); (try clear c52b0); (try clear c53); (try clear c53b0); (try clear q54); (try clear c55); (try clear p58); (try clear q58); (try clear hx58); (try clear hf58); (try clear hcz17_0); (try clear hcz17_1); (try clear hcz17_2); (try clear hcz24_0); (try clear hcz24_1); (try clear hcz24_2); (try clear hfz17_0); (try clear hfz17_1); (try clear hfz17_2); (try clear hfz24_0); (try clear hfz24_1); (try clear hfz24_2); (try clear hx32_0); (try clear hx42_0); (try clear hx58_0); (try clear hx777_0); (try clear hx778_0); (try clear hx780_0); (try clear hx781_0); (try clear p777); (try clear p778); (try clear p780); (try clear p781); (try clear q777); (try clear q778); (try clear q780); (try clear q781)
     obtain ⟨kq, x15_48, x16_48, rfl, HA, HJ48, HO_14, HO_15, BK763, HB⟩ := hcut
     cases kq with
     | zero => exact absurd HA.out (by simp [attestorlaw05_CodeErasures.j2])
     | succ kj48 =>
      have H := HA.out
      clear HA
      simp only [attestorlaw05_CodeErasures.j2] at H
      have HC63 := ak H
      clear H
      obtain ⟨Ao64, co64, eo64⟩ := Kd.R_slice HO_14.out
      subst eo64
      go_upto_if 93 with (fail)
      go_cut [] (fun wc => ∃ (kq : Nat), Aside0 (attestorlaw05_CodeErasures.j3 kq ji9 (t767.length : Int) t770 x15_48 x16_48 t760 t761 t762 = some r) ∧ Aside0 (kq ≤ kj48) ∧ Aside0 (Kd.R (Kd.int .u64) 22 wc w.heap.size (fun _ => True) (.slice Ao64 t770.length co64) t770) ∧ Aside0 (Kd.R Kd.bool 4 wc w.heap.size (fun _ => True) v774 x15_48) ∧ Aside0 (wc.heap[gb763]? = some (.cells #[.int .i64 t760, .int .i64 t761, .int .u64 t762] 24 (0, 0))) ∧ Aside0 (Below w.heap.size w wc))
      case first =>
       have H := HC63.out
       clear HC63
       obtain ⟨c65, H⟩ : ((t770.length : Int) = ji9) ∧ _ := it_ H
       have c65b0 := beq_iff_eq.mpr c65
       have c65b1 := bne_eq_false_iff_eq.mpr c65
       clear c65
       (first | rw [c65b0] | (simp only [i64_w, i32_w]; rw [c65b0]) | rw [c65b1] | skip)
       have H' := ak H
       clear H
       go_wp2
       go_meet
       case rel => exact ⟨_, H', ⟨by have := HK1.out; have := HJ48.out; first | omega | exact Nat.le_refl _⟩, ⟨rU_ HO_14.out⟩, ⟨rU_ HO_15.out⟩, ⟨by (with_reducible repeat (first | refine blk_drewN ?_ _ | refine blk_drew ?_ | refine blk_alloc ?_ _)); exact BK763.out⟩, ⟨by repeat (first | (with_reducible first | exact HB.out | apply below_alloc | apply pw_below_drewN | apply below_drew1 | refine below_set ?_ GE763.out) | exact HB.out)⟩⟩
      case rest =>
       clear HC63
       (try clear c1); (try clear c2); (try clear p2); (try clear c3); (try clear p3); (try clear q3); (try clear hx3); (try clear c4); (try clear p4); (try clear q4); (try clear hx4); (try clear c5); (try clear p5); (try clear q5); (try clear hx5); (try clear hf5); (try clear c6); (try clear p6); (try clear c7); (try clear p7); (try clear q7); (try clear hx7); (try clear c8); (try clear c8b0); (try clear c8b1); (try clear c13); (try clear c13b0); (try clear c13b1); (try clear c14); (try clear c14b0); (try clear c14b1); (try clear c28); (try clear c28b0); (try clear c29); (try clear c29b0); (try clear c30); (try clear c30b0); (try clear c31); (try clear c31b0); (try clear p32); (try clear q32); (try clear hx32); (try clear hf32); (try clear c33); (try clear q33); (try clear c34); (try clear c35); (try clear c39); (try clear c39b0); (try clear c40); (try clear c40b0); (try clear c41); (try clear c41b0); (try clear p42); (try clear q42); (try clear hx42); (try clear hf42); (try clear q43); (try clear c44); (try clear c50); (try clear c50b0); (try clear c50b1); (try clear c51); (try clear c51b0); (try clear c52); (try clear c52b0); (try clear c53); (try clear c53b0); (try clear q54); (try clear c55); (try clear p58); (try clear q58); (try clear hx58); (try clear hf58); (try clear p64); (try clear c65); (try clear c65b0); (try clear c65b1); (try clear hcz17_0); (try clear hcz17_1); (try clear hcz17_2); (try clear hcz24_0); (try clear hcz24_1); (try clear hcz24_2); (try clear hfz17_0); (try clear hfz17_1); (try clear hfz17_2); (try clear hfz24_0); (try clear hfz24_1); (try clear hfz24_2); (try clear hx32_0); (try clear hx42_0); (try clear hx58_0); (try clear hx777_0); (try clear hx778_0); (try clear hx780_0); (try clear hx781_0); (try clear p777); (try clear p778); (try clear p780); (try clear p781); (try clear q777); (try clear q778); (try clear q780); (try clear q781)
       obtain ⟨kq, HA, HJ62, HO_14, HO_15, BK763, HB⟩ := hcut
       cases kq with
       | zero => exact absurd HA.out (by simp [attestorlaw05_CodeErasures.j3])
       | succ kj62 =>
        have H := HA.out
        clear HA
        simp only [attestorlaw05_CodeErasures.j3] at H
        have H' := ak H
        clear H
        go_wp2
        go_loopg [19, 20, 21] kj62 (fun kq v19 v20 v21 w' => ∃ (x19_4 : List Int) (x20_4 : Int) (x21_4 : Int), v20 = .int .i64 x20_4 ∧ v21 = .int .i64 x21_4 ∧ Aside0 (attestorlaw05_CodeErasures.l2 kq ji9 (t767.length : Int) t770 x15_48 x16_48 x19_4 x20_4 x21_4 t760 t761 t762 = some r) ∧ Aside0 (kq ≤ kj62) ∧ Aside0 (Kd.R (Kd.int .u64) 22 w' w.heap.size (fun k_ => some k_ ≠ (v19 : Value).ownBlock) (.slice Ao64 t770.length co64) t770) ∧ Aside0 (Kd.R Kd.bool 4 w' w.heap.size (fun _ => True) v774 x15_48) ∧ Aside0 (Kd.R (Kd.int .u64) 22 w' w.heap.size (fun k_ => some k_ ≠ ((.slice Ao64 t770.length co64) : Value).ownBlock) v19 x19_4) ∧ Aside0 (w'.heap[gb763]? = some (.cells #[.int .i64 t760, .int .i64 t761, .int .u64 t762] 24 (0, 0))) ∧ Aside0 (Below w.heap.size w w'))
        case atStart => exact ⟨(([] : List Int)), ((-1)), (0), gb_, gb_, H', ⟨Nat.le_refl _⟩, ⟨Kd.R_mono (rU_ HO_14.out) (fun _ hk => (by simp [Value.ownBlock]))⟩, ⟨rU_ HO_15.out⟩, ⟨by first | exact Kd.R_nil _ _ _ _ _ | exact Kd.N_nil _ _ _ _ _ | exact Kd.V_nil _ _ _ _ _ | exact Kd.Q_nil _ _ _ _ _ | exact Kd.S_nil _ _ _ _ _⟩, ⟨by (with_reducible repeat (first | refine blk_drewN ?_ _ | refine blk_drew ?_ | refine blk_alloc ?_ _)); exact BK763.out⟩, ⟨by repeat (first | (with_reducible first | exact HB.out | apply below_alloc | apply pw_below_drewN | apply below_drew1 | refine below_set ?_ GE763.out) | exact HB.out)⟩⟩
        case round =>
         clear H'
         (try clear c1); (try clear c2); (try clear p2); (try clear c3); (try clear p3); (try clear q3); (try clear hx3); (try clear c4); (try clear p4); (try clear q4); (try clear hx4); (try clear c5); (try clear p5); (try clear q5); (try clear hx5); (try clear hf5); (try clear c6); (try clear p6); (try clear c7); (try clear p7); (try clear q7); (try clear hx7); (try clear c8); (try clear c8b0); (try clear c8b1); (try clear c13); (try clear c13b0); (try clear c13b1); (try clear c14); (try clear c14b0); (try clear c14b1); (try clear c28); (try clear c28b0); (try clear c29); (try clear c29b0); (try clear c30); (try clear c30b0); (try clear c31); (try clear c31b0); (try clear p32); (try clear q32); (try clear hx32); (try clear hf32); (try clear c33); (try clear q33); (try clear c34); (try clear c35); (try clear c39); (try clear c39b0); (try clear c40); (try clear c40b0); (try clear c41); (try clear c41b0); (try clear p42); (try clear q42); (try clear hx42); (try clear hf42); (try clear q43); (try clear c44); (try clear c50); (try clear c50b0); (try clear c50b1); (try clear c51); (try clear c51b0); (try clear c52); (try clear c52b0); (try clear c53); (try clear c53b0); (try clear q54); (try clear c55); (try clear p58); (try clear q58); (try clear hx58); (try clear hf58); (try clear p64); (try clear c65); (try clear c65b0); (try clear c65b1); (try clear hcz17_0); (try clear hcz17_1); (try clear hcz17_2); (try clear hcz24_0); (try clear hcz24_1); (try clear hcz24_2); (try clear hfz17_0); (try clear hfz17_1); (try clear hfz17_2); (try clear hfz24_0); (try clear hfz24_1); (try clear hfz24_2); (try clear hx32_0); (try clear hx42_0); (try clear hx58_0); (try clear hx777_0); (try clear hx778_0); (try clear hx780_0); (try clear hx781_0); (try clear p777); (try clear p778); (try clear p780); (try clear p781); (try clear q777); (try clear q778); (try clear q780); (try clear q781)
         obtain ⟨x19_4, x20_4, x21_4, rfl, rfl, HA, HK4, HO_14, HO_15, HO_19, BK763, HB⟩ := hrel
         cases gk with
         | zero => exact absurd HA.out (by simp [attestorlaw05_CodeErasures.l2])
         | succ k4 =>
          have H := HA.out
          clear HA
          simp only [attestorlaw05_CodeErasures.l2] at H
          by_cases c66 : x21_4 < ji9
          ·rw [if_pos c66] at H
           have c66b0 := decide_eq_true c66
           clear c66
           obtain ⟨c67, H⟩ : (0 ≤ x21_4) ∧ _ := it_ H
           have c67b0 := decide_eq_true c67
           clear c67
           obtain ⟨c68, H⟩ : (x21_4 < (x15_48.length : Int)) ∧ _ := it_ H
           have c68b0 := decide_eq_true c68
           clear c68
           obtain ⟨bq69, hbq69⟩ : ∃ b_ : Bool, b_ = (rdOf false x15_48 x21_4) := ⟨_, rfl⟩
           replace H : (if bq69 = true then (if x21_4 < (t770.length : Int) then (if x19_4.length < 17592186044416 then (attestorlaw05_CodeErasures.l2 k4 ji9 (t767.length : Int) t770 x15_48 x16_48 (x19_4 ++ [rd t770 x21_4]) x21_4 (wrap64 (x21_4 + 1)) t760 t761 t762) else (none)) else (none)) else (if x19_4.length < 17592186044416 then (attestorlaw05_CodeErasures.l2 k4 ji9 (t767.length : Int) t770 x15_48 x16_48 (x19_4 ++ [IntKind.u64.wrap (x21_4)]) x20_4 (wrap64 (x21_4 + 1)) t760 t761 t762) else (none))) = some r := by rw [← hbq69] at H; exact H
           have Nbq69 := ak hbq69
           clear hbq69
           by_cases c70 : bq69 = true
           ·subst c70
            rw [if_pos rfl] at H
            obtain ⟨c71, H⟩ : (x21_4 < (t770.length : Int)) ∧ _ := it_ H
            have c71b0 := decide_eq_true c71
            clear c71
            obtain ⟨c72, H⟩ : (x19_4.length < 17592186044416) ∧ _ := it_ H
            have LMc72 := ak c72
            clear c72
            obtain ⟨y785, hy785⟩ : ∃ y_ : List Int, y_ = (x19_4 ++ [rd t770 x21_4]) := ⟨_, rfl⟩
            first | rw [Option.bind_some, ← hy785] at H | rw [← hy785] at H
            have Ny785 := ak hy785
            clear hy785
            have H' := ak H
            clear H
            obtain ⟨Ao74, co74, eo74⟩ := Kd.R_slice HO_15.out
            subst eo74
            have pfr73 : 0 ≤ (x21_4 : Int) := od_
            have qfr73 : (x21_4 : Int) < ((x15_48.length : Int) : Int) := od_
            obtain ⟨gofr73, cofr73, eofr73, gbfr73, glfr73, clfr73, HGfr73⟩ := Kd.R_form HO_15.out (by omega)
            (first | cases eofr73 | (injection eofr73 with ea_ en_ ec_; (first | subst ea_ | (injection ea_ with ea_; subst ea_)); subst ec_; clear en_))
            have GBfr73 := ak gbfr73
            have GGfr73 := ak HGfr73
            clear gbfr73 glfr73 HGfr73
            clear pfr73 qfr73
            have p783 : 0 ≤ (x21_4 : Int) := od_
            have q783 : x21_4 < (x15_48.length : Int) := od_
            obtain ⟨ad783, e783, hx783_0⟩ := Kd.at_bool (Kd.R_reads' HO_15.out).2.2 x21_4 p783 q783
            (try rw [← Nbq69.out] at hx783_0)
            obtain rfl : (⟨gofr73, 0, none⟩ : Addr) = ad783 := (by injection e783)
            (first | simp only [add_plain] at hx783_0 | simp only [add_at] at hx783_0 | simp only [Addr.add, Nat.zero_add] at hx783_0 | skip)
            replace p783 := eq_true p783
            replace q783 := eq_true q783
            have pfr75 : 0 ≤ (x21_4 : Int) := od_
            have qfr75 : (x21_4 : Int) < ((t770.length : Int) : Int) := od_
            obtain ⟨gofr75, cofr75, eofr75, gbfr75, glfr75, clfr75, HGfr75⟩ := Kd.R_form HO_14.out (by omega)
            (first | cases eofr75 | (injection eofr75 with ea_ en_ ec_; (first | subst ea_ | (injection ea_ with ea_; subst ea_)); subst ec_; clear en_))
            have GBfr75 := ak gbfr75
            have GGfr75 := ak HGfr75
            clear gbfr75 glfr75 HGfr75
            clear pfr75 qfr75
            have p784 : 0 ≤ (x21_4 : Int) := od_
            have q784 : x21_4 < (t770.length : Int) := od_
            obtain ⟨ad784, e784, hx784_0⟩ := Kd.at_int (Kd.R_reads' HO_14.out).2.2 x21_4 p784 q784
            obtain rfl : (⟨gofr75, 0, none⟩ : Addr) = ad784 := (by injection e784)
            (first | simp only [add_plain] at hx784_0 | simp only [add_at] at hx784_0 | simp only [Addr.add, Nat.zero_add] at hx784_0 | skip)
            replace p784 := eq_true p784
            replace q784 := eq_true q784
            go_wp2_with (first | ((with_reducible refine gate_builtin (b := .append) (xs := #[.tmp 103, .tmp 108]) rfl ?_); at_builtin; refine Kd.R_append (Kd.int .u64) (w0 := w) w.heap.size rfl (.tmp 103) (.tmp 108) 33 22 (.int .u64 0) 8 rfl Tryd.underlying33 info22 rfl (by decide) (by omega) u19 x19_4 (rd t770 x21_4) [.int .u64 (rd t770 x21_4)] (fun k_ => some k_ ≠ (.slice (some ⟨gofr75, 0, none⟩) t770.length co64 : Value).ownBlock) (fun _ => False) rfl rfl ?aP (fun _ hk => hk.elim) ?aF ?aO ?aB ?aS ?aL ?_; (case aP => exact rfl); (case aB => exact (by repeat (first | (with_reducible first | exact HB.out | apply below_alloc | apply pw_below_drewN | apply below_drew1 | refine below_set ?_ GE763.out) | exact HB.out))); (case aF => exact (fun k_ hk => Kd.fresh' (Kd.R_lt (rU_ HO_14.out)) k_ hk)); (case aO => exact (rU_ HO_19.out)); (case aS => exact (below_size (by repeat (first | (with_reducible first | exact HB.out | apply below_alloc | apply pw_below_drewN | apply below_drew1 | refine below_set ?_ GE763.out) | exact HB.out)))); (case aL => have := LMc72.out; omega); intro v786 w76 ho hb hg hat; rw [← Ny785.out] at ho; refine nx5_ (Kd.R_after (ok := (fun _ => True)) (Kd.R_mono (rU_ HO_14.out) (fun _ hk => ⟨trivial, hk⟩)) hg hat) (Kd.R_over' (rU_ HO_15.out) (Kd.R_typed (rU_ HO_19.out)) (by decide) hg) (blk_grown (g := gb763) (o := .cells #[.int .i64 t760, .int .i64 t761, .int .u64 t762] 24 (0, 0)) (by (with_reducible repeat (first | refine blk_drewN ?_ _ | refine blk_drew ?_ | refine blk_alloc ?_ _)); exact BK763.out) hg (Kd.R_ne HO_19.out BK763.out (by decide))) (hb) (ho) ?_; clear HO_14 HO_15 BK763 HB HO_19; intro HO_14 HO_15 BK763 HB HO787; clear ho hb hg hat))
            go_roundg k4
            case measure => have := HK1.out; have := HJ48.out; have := HJ62.out; have := HK4.out; omega
            case rel => exact ⟨(y785), (x21_4), (wrap64 (x21_4 + 1)), gb_, gb_, H', ⟨by have := HK1.out; have := HJ48.out; have := HJ62.out; have := HK4.out; omega⟩, ⟨Kd.R_mono (rU_ HO_14.out) (fun _ hk => hk.2)⟩, ⟨rU_ HO_15.out⟩, ⟨rU_ HO787.out⟩, ⟨by (with_reducible repeat (first | refine blk_drewN ?_ _ | refine blk_drew ?_ | refine blk_alloc ?_ _)); exact BK763.out⟩, ⟨by repeat (first | (with_reducible first | exact HB.out | apply below_alloc | apply pw_below_drewN | apply below_drew1 | refine below_set ?_ GE763.out) | exact HB.out)⟩⟩
           ·replace c70 := Bool.eq_false_iff.mpr c70
            subst c70
            rw [if_neg (show ¬ (false = true) by decide)] at H
            obtain ⟨c77, H⟩ : (x19_4.length < 17592186044416) ∧ _ := it_ H
            have LMc77 := ak c77
            clear c77
            obtain ⟨y788, hy788⟩ : ∃ y_ : List Int, y_ = (x19_4 ++ [IntKind.u64.wrap (x21_4)]) := ⟨_, rfl⟩
            first | rw [Option.bind_some, ← hy788] at H | rw [← hy788] at H
            have Ny788 := ak hy788
            clear hy788
            have H' := ak H
            clear H
            obtain ⟨Ao79, co79, eo79⟩ := Kd.R_slice HO_15.out
            subst eo79
            have pfr78 : 0 ≤ (x21_4 : Int) := od_
            have qfr78 : (x21_4 : Int) < ((x15_48.length : Int) : Int) := od_
            obtain ⟨gofr78, cofr78, eofr78, gbfr78, glfr78, clfr78, HGfr78⟩ := Kd.R_form HO_15.out (by omega)
            (first | cases eofr78 | (injection eofr78 with ea_ en_ ec_; (first | subst ea_ | (injection ea_ with ea_; subst ea_)); subst ec_; clear en_))
            have GBfr78 := ak gbfr78
            have GGfr78 := ak HGfr78
            clear gbfr78 glfr78 HGfr78
            clear pfr78 qfr78
            have p783 : 0 ≤ (x21_4 : Int) := od_
            have q783 : x21_4 < (x15_48.length : Int) := od_
            obtain ⟨ad783, e783, hx783_0⟩ := Kd.at_bool (Kd.R_reads' HO_15.out).2.2 x21_4 p783 q783
            (try rw [← Nbq69.out] at hx783_0)
            obtain rfl : (⟨gofr78, 0, none⟩ : Addr) = ad783 := (by injection e783)
            (first | simp only [add_plain] at hx783_0 | simp only [add_at] at hx783_0 | simp only [Addr.add, Nat.zero_add] at hx783_0 | skip)
            replace p783 := eq_true p783
            replace q783 := eq_true q783
            go_wp2_with (first | ((with_reducible refine gate_builtin (b := .append) (xs := #[.tmp 111, .tmp 114]) rfl ?_); at_builtin; refine Kd.R_append (Kd.int .u64) (w0 := w) w.heap.size rfl (.tmp 111) (.tmp 114) 33 22 (.int .u64 0) 8 rfl Tryd.underlying33 info22 rfl (by decide) (by omega) u19 x19_4 (IntKind.u64.wrap (x21_4)) [.int .u64 (IntKind.u64.wrap (x21_4))] (fun k_ => some k_ ≠ (.slice Ao64 t770.length co64 : Value).ownBlock) (fun _ => False) rfl rfl ?aP (fun _ hk => hk.elim) ?aF ?aO ?aB ?aS ?aL ?_; (case aP => exact rfl); (case aB => exact (by repeat (first | (with_reducible first | exact HB.out | apply below_alloc | apply pw_below_drewN | apply below_drew1 | refine below_set ?_ GE763.out) | exact HB.out))); (case aF => exact (fun k_ hk => Kd.fresh' (Kd.R_lt (rU_ HO_14.out)) k_ hk)); (case aO => exact (rU_ HO_19.out)); (case aS => exact (below_size (by repeat (first | (with_reducible first | exact HB.out | apply below_alloc | apply pw_below_drewN | apply below_drew1 | refine below_set ?_ GE763.out) | exact HB.out)))); (case aL => have := LMc77.out; omega); intro v789 w80 ho hb hg hat; rw [← Ny788.out] at ho; refine nx5_ (Kd.R_after (ok := (fun _ => True)) (Kd.R_mono (rU_ HO_14.out) (fun _ hk => ⟨trivial, hk⟩)) hg hat) (Kd.R_over' (rU_ HO_15.out) (Kd.R_typed (rU_ HO_19.out)) (by decide) hg) (blk_grown (g := gb763) (o := .cells #[.int .i64 t760, .int .i64 t761, .int .u64 t762] 24 (0, 0)) (by (with_reducible repeat (first | refine blk_drewN ?_ _ | refine blk_drew ?_ | refine blk_alloc ?_ _)); exact BK763.out) hg (Kd.R_ne HO_19.out BK763.out (by decide))) (hb) (ho) ?_; clear HO_14 HO_15 BK763 HB HO_19; intro HO_14 HO_15 BK763 HB HO790; clear ho hb hg hat))
            go_roundg k4
            case measure => have := HK1.out; have := HJ48.out; have := HJ62.out; have := HK4.out; omega
            case rel => exact ⟨(y788), (x20_4), (wrap64 (x21_4 + 1)), gb_, gb_, H', ⟨by have := HK1.out; have := HJ48.out; have := HJ62.out; have := HK4.out; omega⟩, ⟨Kd.R_mono (rU_ HO_14.out) (fun _ hk => hk.2)⟩, ⟨rU_ HO_15.out⟩, ⟨rU_ HO790.out⟩, ⟨by (with_reducible repeat (first | refine blk_drewN ?_ _ | refine blk_drew ?_ | refine blk_alloc ?_ _)); exact BK763.out⟩, ⟨by repeat (first | (with_reducible first | exact HB.out | apply below_alloc | apply pw_below_drewN | apply below_drew1 | refine below_set ?_ GE763.out) | exact HB.out)⟩⟩
          ·rw [if_neg c66] at H
           have c66b0 := decide_eq_false c66
           clear c66
           revert H
           refine bd2_ fun t791 t794 A81 H => ?_
           try dsimp only at H
           obtain ⟨c82, H⟩ : (t794 = 0) ∧ _ := it_ H
           have c82b0 := beq_iff_eq.mpr c82
           have c82b1 := bne_eq_false_iff_eq.mpr c82
           clear c82
           revert H
           refine bd_ fun t795 A83 H => ?_
           have HC84 := ak H
           clear H
           have hcz85_0 : wr.cell? ⟨gb763, 0, none⟩ = some (.int .i64 t760) := (blk_cell BK763.out 0).trans rfl
           have hcz85_1 : wr.cell? ⟨gb763, 1, none⟩ = some (.int .i64 t761) := (blk_cell BK763.out 1).trans rfl
           have hcz85_2 : wr.cell? ⟨gb763, 2, none⟩ = some (.int .u64 t762) := (blk_cell BK763.out 2).trans rfl
           have hfz85_0 := blk_frozen BK763.out 0
           have hfz85_1 := blk_frozen BK763.out 1
           have hfz85_2 := blk_frozen BK763.out 2
           obtain ⟨Ao86, co86, eo86⟩ := Kd.R_slice HO_19.out
           subst eo86
           obtain ⟨Ao87, co87, eo87⟩ := Kd.R_slice HO_15.out
           subst eo87
           go_upto_if 131 with (first | ((with_reducible refine gate_callee (f := 29) rfl ?_); refine gl_ (some 121) Tryd.func29 #[.agg #[.int .i64 t760, .int .i64 t761, .int .u64 t762], .slice Ao86 x19_4.length co86, .slice Ao87 x15_48.length co87, .int .i64 (t767.length : Int)] ?_; (with_reducible refine (code_Fill.calls k4 t760 t761 t762 _ _ x19_4 _ _ x15_48 (t767.length : Int) t791 t794 _ ?side1 ?side2 ?side3 ?side4 ?side5 A81.out).mono ?_); (case side1 => repeat (first | with_reducible exact HG.out | with_reducible exact (Fld.below HG.out HB.out) | exact (Fld.below HG.out (by repeat (first | (with_reducible first | exact HB.out | apply below_alloc | apply pw_below_drewN | apply below_drew1 | refine below_set ?_ GE763.out) | exact HB.out))) | (with_reducible refine Fld.alloc ?_ _) | (with_reducible refine Fld.drewN ?_ _) | (with_reducible refine Fld.drew ?_))); (case side2 => exact cU_ ((Kd.R_reads' HO_19.out).2.2)); (case side3 => exact (Kd.R_reads' HO_19.out).2.1); (case side4 => exact cU_ ((Kd.R_reads' HO_15.out).2.2)); (case side5 => exact (Kd.R_reads' HO_15.out).2.1); rintro e w88 ⟨v792, rfl, ho0, hb⟩; refine ⟨_, rfl, ?_⟩; refine nx6_ (Kd.R_elder' (rU_ HO_14.out) (Kd.R_base ho0) hb) (Kd.R_below (rU_ HO_15.out) hb) (Kd.R_elder' (rU_ HO_19.out) (Kd.R_base ho0) hb) (Kd.R_lower (Kd.R_new' (Kd.R_new' ho0 (Kd.R_lt (rU_ HO_14.out))) (Kd.R_lt (rU_ HO_19.out))) (below_size (by repeat (first | (with_reducible first | exact HB.out | apply below_alloc | apply pw_below_drewN | apply below_drew1 | refine below_set ?_ GE763.out) | exact HB.out)))) (blk_below (g := gb763) (o := .cells #[.int .i64 t760, .int .i64 t761, .int .u64 t762] 24 (0, 0)) (by (with_reducible repeat (first | refine blk_drewN ?_ _ | refine blk_drew ?_ | refine blk_alloc ?_ _)); exact BK763.out) hb) (below_step (by repeat (first | (with_reducible first | exact HB.out | apply below_alloc | apply pw_below_drewN | apply below_drew1 | refine below_set ?_ GE763.out) | exact HB.out)) hb) ?_; clear HO_14 HO_15 HO_19 BK763 HB; intro HO_14 HO_15 HO_19 HO793 BK763 HB; clear hb ho0; obtain ⟨Ao89, co89, eo89⟩ := Kd.R_slice HO793.out; subst eo89) | (go_at_call 37; (with_reducible refine (attestorlaw05_same.calls k4 _ _ t791 _ _ t770 t795 _ ?side1 ?side2 ?side3 ?side4 A83.out).mono ?_); (case side1 => exact cU_ ((Kd.R_reads' HO793.out).2.2)); (case side2 => exact (Kd.R_reads' HO793.out).2.1); (case side3 => exact cU_ ((Kd.R_reads' HO_14.out).2.2)); (case side4 => exact (Kd.R_reads' HO_14.out).2.1); rintro e w' ⟨rfl, ⟨nd, rfl⟩⟩))
           (try simp only [Act.put, s1_, s2_, s3_])
           go_cut [] (fun wc => ∃ (kq : Nat), Aside0 (attestorlaw05_CodeErasures.j5 kq (t767.length : Int) x15_48 x16_48 x19_4 x20_4 t760 t761 t762 = some r) ∧ Aside0 (kq ≤ k4) ∧ Aside0 (Kd.R Kd.bool 4 wc w.heap.size (fun _ => True) (.slice Ao87 x15_48.length co87) x15_48) ∧ Aside0 (Kd.R (Kd.int .u64) 22 wc w.heap.size (fun _ => True) (.slice Ao86 x19_4.length co86) x19_4) ∧ Aside0 (wc.heap[gb763]? = some (.cells #[.int .i64 t760, .int .i64 t761, .int .u64 t762] 24 (0, 0))) ∧ Aside0 (Below w.heap.size w wc))
           case first =>
            have H := HC84.out
            clear HC84
            by_cases c90 : t795 = true
            ·subst c90
             rw [if_pos rfl] at H
             have H' := ak H
             clear H
             go_wp2
             go_meet
             case rel => exact ⟨_, H', ⟨by have := HK1.out; have := HJ48.out; have := HJ62.out; have := HK4.out; first | omega | exact Nat.le_refl _⟩, ⟨rU_ HO_15.out⟩, ⟨Kd.R_mono (rU_ HO_19.out) (fun _ hk => trivial)⟩, ⟨by (with_reducible repeat (first | refine blk_drewN ?_ _ | refine blk_drew ?_ | refine blk_alloc ?_ _)); exact BK763.out⟩, ⟨by repeat (first | (with_reducible first | exact HB.out | apply below_alloc | apply pw_below_drewN | apply below_drew1 | refine below_set ?_ GE763.out) | exact HB.out)⟩⟩
            ·replace c90 := Bool.eq_false_iff.mpr c90
             subst c90
             rw [if_neg (show ¬ (false = true) by decide)] at H
             exact absurd H (by simp)
           case rest =>
            clear HC84
            (try clear c1); (try clear c2); (try clear p2); (try clear c3); (try clear p3); (try clear q3); (try clear hx3); (try clear c4); (try clear p4); (try clear q4); (try clear hx4); (try clear c5); (try clear p5); (try clear q5); (try clear hx5); (try clear hf5); (try clear c6); (try clear p6); (try clear q6); (try clear c7); (try clear p7); (try clear q7); (try clear hx7); (try clear c8); (try clear c8b0); (try clear c8b1); (try clear c9); (try clear c13); (try clear c13b0); (try clear c13b1); (try clear c14); (try clear c14b0); (try clear c14b1); (try clear c28); (try clear c28b0); (try clear c29); (try clear c29b0); (try clear c30); (try clear c30b0); (try clear c31); (try clear c31b0); (try clear p32); (try clear q32); (try clear hx32); (try clear hf32); (try clear c33); (try clear q33); (try clear c34); (try clear c35); (try clear c39); (try clear c39b0); (try clear c40); (try clear c40b0); (try clear c41); (try clear c41b0); (try clear p42); (try clear q42); (try clear hx42); (try clear hf42); (try clear q43); (try clear c44); (try clear c50); (try clear c50b0); (try clear c50b1); (try clear c51); (try clear c51b0); (try clear c52); (try clear c52b0); (try clear c53); (try clear c53b0); (try clear q54); (try clear c55); (try clear p58); (try clear q58); (try clear hx58); (try clear hf58); (try clear p64); (try clear c65); (try clear c65b0); (try clear c65b1); (try clear c66); (try clear c66b0); (try clear c67); (try clear c67b0); (try clear c68); (try clear c68b0); (try clear q69); (try clear c70); (try clear c71); (try clear c71b0); (try clear c72); (try clear c77); (try clear p77); (try clear q77); (try clear hx77); (try clear p78); (try clear q78); (try clear hx78); (try clear c82); (try clear c82b0); (try clear c82b1); (try clear c90); (try clear hcz17_0); (try clear hcz17_1); (try clear hcz17_2); (try clear hcz24_0); (try clear hcz24_1); (try clear hcz24_2); (try clear hcz85_0); (try clear hcz85_1); (try clear hcz85_2); (try clear hfz17_0); (try clear hfz17_1); (try clear hfz17_2); (try clear hfz24_0); (try clear hfz24_1); (try clear hfz24_2); (try clear hfz85_0); (try clear hfz85_1); (try clear hfz85_2); (try clear hx32_0); (try clear hx42_0); (try clear hx58_0); (try clear hx777_0); (try clear hx778_0); (try clear hx780_0); (try clear hx781_0); (try clear hx783_0); (try clear hx784_0); (try clear p777); (try clear p778); (try clear p780); (try clear p781); (try clear p783); (try clear p784); (try clear q777); (try clear q778); (try clear q780); (try clear q781); (try clear q783); (try clear q784)
            obtain ⟨kq, HA, HJ83, HO_15, HO_19, BK763, HB⟩ := hcut
            cases kq with
            | zero => exact absurd HA.out (by simp [attestorlaw05_CodeErasures.j5])
            | succ kj83 =>
             have H := HA.out
             clear HA
             simp only [attestorlaw05_CodeErasures.j5] at H
             by_cases c91 : x16_48 ≤ (t767.length : Int)
             ·rw [if_pos c91] at H
              have c91b0 := decide_eq_true c91
              clear c91
              revert H
              refine bd_ fun t796 A92 H => ?_
              obtain rfl := Option.some.inj H
              go_wp2_with (first | ((with_reducible refine gate_callee (f := 23) rfl ?_); refine gl_ (some 139) Tryd.func23 #[] ?_; (with_reducible refine (attestorlaw05_works.calls kj83  t796 _ ?side1 A92.out).mono ?_); (case side1 => repeat (first | with_reducible exact HG.out | with_reducible exact (Fld.below HG.out HB.out) | exact (Fld.below HG.out (by repeat (first | (with_reducible first | exact HB.out | apply below_alloc | apply pw_below_drewN | apply below_drew1 | refine below_set ?_ GE763.out) | exact HB.out))) | (with_reducible refine Fld.alloc ?_ _) | (with_reducible refine Fld.drewN ?_ _) | (with_reducible refine Fld.drew ?_))); rintro e w93 ⟨rfl, hb⟩; refine ⟨_, rfl, ?_⟩; refine nx4_ (Kd.R_below (rU_ HO_15.out) hb) (Kd.R_below (rU_ HO_19.out) hb) (blk_below (g := gb763) (o := .cells #[.int .i64 t760, .int .i64 t761, .int .u64 t762] 24 (0, 0)) (by (with_reducible repeat (first | refine blk_drewN ?_ _ | refine blk_drew ?_ | refine blk_alloc ?_ _)); exact BK763.out) hb) (below_step (by repeat (first | (with_reducible first | exact HB.out | apply below_alloc | apply pw_below_drewN | apply below_drew1 | refine below_set ?_ GE763.out) | exact HB.out)) hb) ?_; clear HO_15 HO_19 BK763 HB; intro HO_15 HO_19 BK763 HB; clear hb))
              go_ret
              exact ⟨by first | rfl | (simp [errW_none, errW_some] <;> rfl) | (simp only [← hji7, ← hji9]; first | rfl | (simp [errW_none, errW_some] <;> rfl)) | (simp [*, errW_none, errW_some] <;> rfl), by repeat (first | (with_reducible first | exact HB.out | apply below_alloc | apply pw_below_drewN | apply below_drew1 | refine below_set ?_ GE763.out) | exact HB.out)⟩
             ·rw [if_neg c91] at H
              have c91b0 := decide_eq_false c91
              clear c91
              by_cases c94 : x20_4 < 0
              ·rw [if_pos c94] at H
               have c94b0 := decide_eq_true c94
               clear c94
               revert H
               refine bd_ fun t797 A95 H => ?_
               obtain rfl := Option.some.inj H
               go_wp2_with (first | ((with_reducible refine gate_callee (f := 23) rfl ?_); refine gl_ (some 139) Tryd.func23 #[] ?_; (with_reducible refine (attestorlaw05_works.calls kj83  t797 _ ?side1 A95.out).mono ?_); (case side1 => repeat (first | with_reducible exact HG.out | with_reducible exact (Fld.below HG.out HB.out) | exact (Fld.below HG.out (by repeat (first | (with_reducible first | exact HB.out | apply below_alloc | apply pw_below_drewN | apply below_drew1 | refine below_set ?_ GE763.out) | exact HB.out))) | (with_reducible refine Fld.alloc ?_ _) | (with_reducible refine Fld.drewN ?_ _) | (with_reducible refine Fld.drew ?_))); rintro e w96 ⟨rfl, hb⟩; refine ⟨_, rfl, ?_⟩; refine nx4_ (Kd.R_below (rU_ HO_15.out) hb) (Kd.R_below (rU_ HO_19.out) hb) (blk_below (g := gb763) (o := .cells #[.int .i64 t760, .int .i64 t761, .int .u64 t762] 24 (0, 0)) (by (with_reducible repeat (first | refine blk_drewN ?_ _ | refine blk_drew ?_ | refine blk_alloc ?_ _)); exact BK763.out) hb) (below_step (by repeat (first | (with_reducible first | exact HB.out | apply below_alloc | apply pw_below_drewN | apply below_drew1 | refine below_set ?_ GE763.out) | exact HB.out)) hb) ?_; clear HO_15 HO_19 BK763 HB; intro HO_15 HO_19 BK763 HB; clear hb))
               go_ret
               exact ⟨by first | rfl | (simp [errW_none, errW_some] <;> rfl) | (simp only [← hji7, ← hji9]; first | rfl | (simp [errW_none, errW_some] <;> rfl)) | (simp [*, errW_none, errW_some] <;> rfl), by repeat (first | (with_reducible first | exact HB.out | apply below_alloc | apply pw_below_drewN | apply below_drew1 | refine below_set ?_ GE763.out) | exact HB.out)⟩
              ·rw [if_neg c94] at H
               have c94b0 := decide_eq_false c94
               clear c94
               obtain ⟨c97, H⟩ : (0 ≤ x20_4) ∧ _ := it_ H
               have c97b0 := decide_eq_true c97
               clear c97
               obtain ⟨c98, H⟩ : (x20_4 < (x19_4.length : Int)) ∧ _ := it_ H
               have c98b0 := decide_eq_true c98
               clear c98
               revert H
               refine bd_ fun t799 A99 H => ?_
               obtain ⟨y800, hy800⟩ : ∃ y_ : List Int, y_ = (x19_4.set (x20_4 : Int).toNat t799) := ⟨_, rfl⟩
               first | rw [Option.bind_some, ← hy800] at H | rw [← hy800] at H
               have Ny800 := ak hy800
               clear hy800
               revert H
               refine bd2_ fun t801 t804 A101 H => ?_
               try dsimp only at H
               obtain ⟨c102, H⟩ : (t804 = 7) ∧ _ := it_ H
               have c102b0 := beq_iff_eq.mpr c102
               have c102b1 := bne_eq_false_iff_eq.mpr c102
               clear c102
               revert H
               refine bd_ fun t805 A103 H => ?_
               obtain rfl := Option.some.inj H
               try go_wp2
               refine nx4_ (Kd.R_drew HO_15.out) (Kd.R_drew HO_19.out) (blk_drew BK763.out) (below_drew1 HB.out) ?_
               clear HO_15 HO_19 BK763 HB
               intro HO_15 HO_19 BK763 HB
               have pfr105 : 0 ≤ (x20_4 : Int) := od_
               have qfr105 : (x20_4 : Int) < ((x19_4.length : Int) : Int) := od_
               obtain ⟨gofr105, cofr105, eofr105, gbfr105, glfr105, clfr105, HGfr105⟩ := Kd.R_form HO_19.out (by omega)
               (first | cases eofr105 | (injection eofr105 with ea_ en_ ec_; (first | subst ea_ | (injection ea_ with ea_; subst ea_)); subst ec_; clear en_))
               have GBfr105 := ak gbfr105
               have GGfr105 := ak HGfr105
               clear gbfr105 glfr105 HGfr105
               clear pfr105 qfr105
               have p798 : 0 ≤ (x20_4 : Int) := od_
               have q798 : x20_4 < (x19_4.length : Int) := od_
               obtain ⟨ad798, e798, hx798_0⟩ := Kd.at_int (Kd.R_reads' HO_19.out).2.2 x20_4 p798 q798
               obtain rfl : (⟨gofr105, 0, none⟩ : Addr) = ad798 := (by injection e798)
               (first | simp only [add_plain] at hx798_0 | simp only [add_at] at hx798_0 | simp only [Addr.add, Nat.zero_add] at hx798_0 | skip)
               replace p798 := eq_true p798
               replace q798 := eq_true q798
               refine start_ (n := 11) (S := fun w' => w'.cell? ⟨gb763, 0, none⟩ = some (.int .i64 t760) ∧ w'.cell? ⟨gb763, 1, none⟩ = some (.int .i64 t761) ∧ w'.cell? ⟨gb763, 2, none⟩ = some (.int .u64 t762) ∧ w'.cell? ⟨gofr105, (x20_4).toNat, none⟩ = some (.int .u64 (rd x19_4 x20_4))) (ds := [10]) (bv 11 0) (by kernel_rfl) rfl rfl ⟨(blk_cell BK763.out 0).trans rfl, (blk_cell BK763.out 1).trans rfl, (blk_cell BK763.out 2).trans rfl, hx798_0⟩ (fun hHeld => ?_); refine with_tabW attestorlaw05_CodeErasures.tab36 attestorlaw05_CodeErasures.bits36 (fun HT_ HW_ => ?_)
               generalize wc.drew = w104 at HO_15 HO_19 BK763 HB hx798_0 hHeld ⊢
               refine pr_ (i := 0) (N := some 140) (v := ?_) (a' := ?_) (bv 11 1) HT_.out ?_ ?_ ?_; rotate_left 2; (intro w'; go_simp; with_reducible rfl); (simp only [Act.put, s1_, s2_, s3_, i64_w, i32_w]; rfl)
               refine pr_ (i := 1) (N := some 141) (v := ?_) (a' := ?_) (bv 11 3) HT_.out ?_ ?_ ?_; rotate_left 2; (intro w'; go_simp; with_reducible rfl); (simp only [Act.put, s1_, s2_, s3_, i64_w, i32_w]; rfl)
               refine pr_ (i := 2) (N := some 142) (v := ?_) (a' := ?_) (bv 11 7) HT_.out ?_ ?_ ?_; rotate_left 2; (intro w'; go_simp; with_reducible rfl); (simp only [Act.put, s1_, s2_, s3_, i64_w, i32_w]; rfl)
               refine pr_ (i := 4) (N := some 144) (v := ?_) (a' := ?_) (bv 11 23) HT_.out ?_ ?_ ?_; rotate_left 2; (intro w'; go_simp; with_reducible rfl); (simp only [Act.put, s1_, s2_, s3_, i64_w, i32_w]; rfl)
               refine pr_ (i := 5) (N := some 145) (v := ?_) (a' := ?_) (bv 11 55) HT_.out ?_ ?_ ?_; rotate_left 2; (intro w'; go_simp; with_reducible rfl); (simp only [Act.put, s1_, s2_, s3_, i64_w, i32_w]; rfl)
               refine pr_ (i := 6) (N := some 146) (v := ?_) (a' := ?_) (bv 11 119) HT_.out ?_ ?_ ?_; rotate_left 2; (intro w'; go_simp; with_reducible rfl); (simp only [Act.put, s1_, s2_, s3_, i64_w, i32_w]; rfl)
               refine take_ (i := 3) (N := some 143) (v := ?_) (a' := ?_) (bv 11 127) rfl rfl (take_ofW HT_.out HW_.out (by kernel_rfl)) (fun _ _ _ h => h) (Or.inl ⟨by rfl, ?_⟩) hHeld ?_ ?_
               rotate_left
               ·rintro w' ⟨s0, s1, s2, s3⟩
                go_simp
                with_reducible rfl
               rotate_left
               ·simp only [Act.put, s1_, s2_, s3_, i64_w, i32_w]
                rfl
               refine take_ (i := 7) (N := some 147) (v := ?_) (a' := ?_) (bv 11 255) rfl rfl (take_ofW HT_.out HW_.out (by kernel_rfl)) (fun _ _ _ h => h) (Or.inl ⟨by rfl, ?_⟩) hHeld ?_ ?_
               rotate_left
               ·rintro w' ⟨s0, s1, s2, s3⟩
                go_simp
                with_reducible rfl
               rotate_left
               ·simp only [Act.put, s1_, s2_, s3_, i64_w, i32_w]
                rfl
               refine one_ (i := 8) (N := some 148) (bv 11 511) rfl rfl (one_of HT_.out (by kernel_rfl)) (by decide) (fun K hK => ?_)
               refine goes_ Tryd.func38 (by kernel_rfl) rfl #[.int .i64 t760, .int .u64 (rd x19_4 x20_4), .int .u64 1] (by rfl) rfl rfl ga_ ?_
               with_reducible refine (field_Add.calls t760 (rd x19_4 x20_4) 1 t799 _ ?side1 A99.out).mono ?_
               (case side1 => repeat (first | with_reducible exact HG.out | with_reducible exact (Fld.below HG.out HB.out) | exact (Fld.below HG.out (by repeat (first | (with_reducible first | exact HB.out | apply below_alloc | apply pw_below_drewN | apply below_drew1 | refine below_set ?_ GE763.out) | exact HB.out))) | (with_reducible refine Fld.alloc ?_ _) | (with_reducible refine Fld.drewN ?_ _) | (with_reducible refine Fld.drew ?_)))
               rintro e w106 ⟨rfl, hb⟩
               have HS3_ := (hb.cell (World.block_lt_of_cell? _ _ (hHeld.2.2.2))).trans (hHeld.2.2.2)
               refine ⟨_, rfl, ?_⟩
               refine nx4_ (Kd.R_below (rU_ HO_15.out) hb) (Kd.R_below (rU_ HO_19.out) hb) (blk_below (g := gb763) (o := .cells #[.int .i64 t760, .int .i64 t761, .int .u64 t762] 24 (0, 0)) (by (with_reducible repeat (first | refine blk_drewN ?_ _ | refine blk_drew ?_ | refine blk_alloc ?_ _)); exact BK763.out) hb) (below_step (by repeat (first | (with_reducible first | exact HB.out | apply below_alloc | apply pw_below_drewN | apply below_drew1 | refine below_set ?_ GE763.out) | exact HB.out)) hb) ?_
               clear HO_15 HO_19 BK763 HB
               intro HO_15 HO_19 BK763 HB
               (try clear hb)
               (try clear hb2)
               (try clear hk)
               (try clear hi)
               have p100 : 0 ≤ (x20_4 : Int) := od_
               have q100 : (x20_4 : Int) < ((x19_4.length : Int) : Int) := od_
               obtain ⟨hx100_0, hf100_0⟩ := Kd.R_celln 0 HO_19.out (x20_4 : Int) p100 q100
               replace p100 := eq_true p100
               replace q100 := eq_true q100
               have HP107 := Kd.R_putn HO_19.out (x20_4 : Int) t799
               rw [← Ny800.out] at HP107
               have HQ107 := ak HP107
               clear HP107
               refine hK.out _ _ ⟨(blk_cell BK763.out 0).trans rfl, (blk_cell BK763.out 1).trans rfl, (blk_cell BK763.out 2).trans rfl, HS3_⟩ (fun hHeld => ?_)
               clear hK K
               refine norm_ (a' := ?_) ?_ ?_
               rotate_left
               ·show Act.put _ (some 148) _ = _
                simp only [Act.put, s1_, s2_, s3_, i64_w, i32_w]
                rfl
               refine pr_ (i := 9) (N := some 149) (v := ?_) (a' := ?_) (bv 11 1023) HT_.out ?_ ?_ ?_; rotate_left 2; (intro w'; go_simp; with_reducible rfl); (simp only [Act.put, s1_, s2_, s3_, i64_w, i32_w]; rfl)
               refine last_ (i := 10) (N := none) #[true, true, true, true, true, true, true, true, true, true, true] rfl rfl (one_of HT_.out (by kernel_rfl)) (by decide) (fun K hK => ?_)
               refine skip_ (w1 := ?_) (by rfl) rfl ?_ ?_
               rotate_left
               ·go_simp
                rfl
               refine hK.out _ _ ?_
               clear hK K
               refine done_ (done_of HT_.out (by kernel_rfl)) ?_
               have hcz108_0 : w106.cell? ⟨gb763, 0, none⟩ = some (.int .i64 t760) := (blk_cell BK763.out 0).trans rfl
               have hcz108_1 : w106.cell? ⟨gb763, 1, none⟩ = some (.int .i64 t761) := (blk_cell BK763.out 1).trans rfl
               have hcz108_2 : w106.cell? ⟨gb763, 2, none⟩ = some (.int .u64 t762) := (blk_cell BK763.out 2).trans rfl
               have hfz108_0 := blk_frozen BK763.out 0
               have hfz108_1 := blk_frozen BK763.out 1
               have hfz108_2 := blk_frozen BK763.out 2
               obtain ⟨clz_, GGz_⟩ := Kd.R_typed HO_19.out gofr105 rfl
               have GGfr105 := ak GGz_
               clear GGz_
               have hBZ_ := blk_far (p := ⟨gofr105, (x20_4 : Int).toNat, none⟩) BK763.out (by have h_ := Kd.R_ne HO_19.out BK763.out (by decide); intro e_; exact h_ (by rw [e_]; rfl)) (.int .u64 t799)   -- set world
               have hcy_0 : (w106.setCell ⟨gofr105, (x20_4 : Int).toNat, none⟩ (.int .u64 t799)).cell? ⟨gb763, 0, none⟩ = some (.int .i64 t760) := (blk_cell hBZ_ 0).trans rfl
               have hcy_1 : (w106.setCell ⟨gofr105, (x20_4 : Int).toNat, none⟩ (.int .u64 t799)).cell? ⟨gb763, 1, none⟩ = some (.int .i64 t761) := (blk_cell hBZ_ 1).trans rfl
               have hcy_2 : (w106.setCell ⟨gofr105, (x20_4 : Int).toNat, none⟩ (.int .u64 t799)).cell? ⟨gb763, 2, none⟩ = some (.int .u64 t762) := (blk_cell hBZ_ 2).trans rfl
               try go_wp2_with (first | ((with_reducible refine gate_callee (f := 29) rfl ?_); refine goesL_ (some 155) rfl rfl Tryd.func29 (by kernel_rfl) rfl #[.agg #[.int .i64 t760, .int .i64 t761, .int .u64 t762], .slice (some ⟨gofr105, 0, none⟩) y800.length co86, .slice Ao87 x15_48.length co87, .int .i64 (t767.length : Int)] rfl (by (try simp only [List.map_toArray, List.map_cons, List.map_nil]); first | done | (rw [show y800.length = x19_4.length from (Kd.R_reads' HQ107.out).1.symm] <;> rfl) | rfl | (simp only [List.length_drop, List.length_take]; rfl)) ?_; (with_reducible refine (code_Fill.calls kj83 t760 t761 t762 _ _ y800 _ _ x15_48 (t767.length : Int) t801 t804 _ ?side1 ?side2 ?side3 ?side4 ?side5 A101.out).mono ?_); (case side1 => repeat (first | with_reducible exact HG.out | with_reducible exact (Fld.below HG.out HB.out) | exact (Fld.below HG.out (by repeat (first | (with_reducible first | exact HB.out | apply below_alloc | apply pw_below_drewN | apply below_drew1 | refine below_set ?_ GBfr105.out | refine below_set ?_ GE763.out) | exact HB.out))) | (with_reducible refine Fld.alloc ?_ _) | (with_reducible refine Fld.drewN ?_ _) | (with_reducible refine Fld.drew ?_))); (case side2 => refine (Kd.R_reads' (e := 22) (base := w.heap.size) (ok := fun k_ => True) (n := x19_4.length) (c := co86) ?_).2.2; exact (rU_ HQ107.out)); (case side3 => rw [show y800.length = x19_4.length from (Kd.R_reads' HQ107.out).1.symm]; exact (Kd.R_reads' HO_19.out).2.1); (case side4 => refine (Kd.R_reads' (e := 4) (base := w.heap.size) (ok := fun k_ => True) (n := x15_48.length) (c := co87) ?_).2.2; exact (by (with_reducible repeat (first | apply Kd.R_alloc | apply Kd.R_drewN | apply Kd.R_drew)); exact (Kd.R_mono (Kd.R_far (p := ⟨gofr105, (x20_4 : Int).toNat, none⟩) (Kd.R_types HO_15.out GGfr105.out (by decide)) (fun _ hk => hk.2) (.int .u64 t799)) (fun _ h_ => h_.1)))); (case side5 => exact (Kd.R_reads' HO_15.out).2.1); rintro e w109 ⟨v802, rfl, ho0, hb⟩; refine ⟨_, rfl, ?_⟩; refine nx5_ (Kd.R_below (by (with_reducible repeat (first | apply Kd.R_alloc | apply Kd.R_drewN | apply Kd.R_drew)); exact (Kd.R_mono (Kd.R_far (p := ⟨gofr105, (x20_4 : Int).toNat, none⟩) (Kd.R_types HO_15.out GGfr105.out (by decide)) (fun _ hk => hk.2) (.int .u64 t799)) (fun _ h_ => h_.1))) hb) (Kd.R_elder' (rU_ HQ107.out) (Kd.R_base ho0) hb) (Kd.R_lower (Kd.R_new' ho0 (Kd.R_lt (rU_ HQ107.out))) (below_size (by repeat (first | (with_reducible first | exact HB.out | apply below_alloc | apply pw_below_drewN | apply below_drew1 | refine below_set ?_ GBfr105.out | refine below_set ?_ GE763.out) | exact HB.out)))) (blk_below (g := gb763) (o := .cells #[.int .i64 t760, .int .i64 t761, .int .u64 t762] 24 (0, 0)) (by (with_reducible repeat (first | refine blk_drewN ?_ _ | refine blk_drew ?_ | refine blk_alloc ?_ _)); refine blk_far ?_ (by have h_ := Kd.R_ne HO_19.out BK763.out (by decide); intro e_; exact h_ (by rw [e_]; rfl)) _; (with_reducible repeat (first | refine blk_drewN ?_ _ | refine blk_drew ?_ | refine blk_alloc ?_ _)); exact BK763.out) hb) (below_step (by repeat (first | (with_reducible first | exact HB.out | apply below_alloc | apply pw_below_drewN | apply below_drew1 | refine below_set ?_ GBfr105.out | refine below_set ?_ GE763.out) | exact HB.out)) hb) ?_; clear HO_15 HO_19 BK763 HB; intro HO_15 HO_19 HO803 BK763 HB; clear hb ho0) | (go_at_call 23; (with_reducible refine (attestorlaw05_works.calls kj83  t805 _ ?side1 A103.out).mono ?_); (case side1 => repeat (first | with_reducible exact HG.out | with_reducible exact (Fld.below HG.out HB.out) | exact (Fld.below HG.out (by repeat (first | (with_reducible first | exact HB.out | apply below_alloc | apply pw_below_drewN | apply below_drew1 | refine below_set ?_ GE763.out) | exact HB.out))) | (with_reducible refine Fld.alloc ?_ _) | (with_reducible refine Fld.drewN ?_ _) | (with_reducible refine Fld.drew ?_))); rintro e w110 ⟨rfl, hb⟩; refine nx5_ (Kd.R_below (rU_ HO_15.out) hb) (Kd.R_below (rU_ HO_19.out) hb) (Kd.R_below (rU_ HO803.out) hb) (blk_below (g := gb763) (o := .cells #[.int .i64 t760, .int .i64 t761, .int .u64 t762] 24 (0, 0)) (by (with_reducible repeat (first | refine blk_drewN ?_ _ | refine blk_drew ?_ | refine blk_alloc ?_ _)); exact BK763.out) hb) (below_step (by repeat (first | (with_reducible first | exact HB.out | apply below_alloc | apply pw_below_drewN | apply below_drew1 | refine below_set ?_ GE763.out) | exact HB.out)) hb) ?_; clear HO_15 HO_19 HO803 BK763 HB; intro HO_15 HO_19 HO803 BK763 HB; clear hb))
               go_ret
               exact ⟨by first | rfl | (simp [errW_none, errW_some] <;> rfl) | (simp only [← hji7, ← hji9]; first | rfl | (simp [errW_none, errW_some] <;> rfl)) | (simp [*, errW_none, errW_some] <;> rfl), by repeat (first | (with_reducible first | exact HB.out | apply below_alloc | apply pw_below_drewN | apply below_drew1 | refine below_set ?_ GE763.out) | exact HB.out)⟩

end Go.Proofs.YtedapdagagkajaaDoor.Q

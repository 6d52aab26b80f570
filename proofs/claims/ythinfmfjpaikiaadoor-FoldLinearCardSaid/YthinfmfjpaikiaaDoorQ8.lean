-- Written by prx.py (this session's driver of the kit's print) out of the translation. Not trusted: Lean checks it.
import Derived.Test.YthinfmfjpaikiaaDoorQ0
import Derived.Test.YthinfmfjpaikiaaDoorQ2
import Derived.Test.YthinfmfjpaikiaaDoorQ3
import Derived.Test.YthinfmfjpaikiaaDoorQ7
namespace Go.Proofs.YthinfmfjpaikiaaDoor.Q
open Go.RowKit Go.Proofs.YthinfmfjpaikiaaDoorW.PrintWords Go.Proofs.YthinfmfjpaikiaaDoorW.PrintLast Go.Proofs.YthinfmfjpaikiaaDoorW.PrintMore
attribute [local go_sem] max2_int min2_int max_two min_two max_three min_three max_four min_four   -- for this text's walks alone
set_option linter.unusedVariables false
set_option linter.unusedSimpArgs false

/-! ### attestorlaw09_FoldLinear: function 4 -/
mutual
def attestorlaw09_FoldLinear.l0 : Nat → Int → Int → Int → List Int → List Int → List Int → Int → Int → Int → Int → Option (Bool)
 | 0, _, _, _, _, _, _, _, _, _, _ => none
 | k + 1, x5, x6, x16, x17, x18, x19, x21, x305000, x305001, x305002 => if x21 < x16 then (if 0 ≤ x21 then (if x21 < (x17.length : Int) then ((field_Mul.f x305000 (rd x17 x21) x5).bind fun t316 => (if x21 < (x18.length : Int) then ((field_Add.f x305000 t316 (rd x18 x21)).bind fun t318 => (if x19.length < 17592186044416 then (attestorlaw09_FoldLinear.l0 k x5 x6 x16 x17 x18 (x19 ++ [t318]) (wrap64 (x21 + 1)) x305000 x305001 x305002) else (none))) else (none))) else (none)) else (none)) else ((fold_Word.f k x305000 x305001 x305002 x17 x6).bind fun bt322 => ((fold_Word.f k x305000 x305001 x305002 x18 x6).bind fun bt326 => ((fold_Word.f k x305000 x305001 x305002 x19 x6).bind fun bt330 => (if bt322.2 = 0 then (if bt326.2 = 0 then (if bt330.2 = 0 then (if (bt322.1.length : Int) = (wrap64 (Int.tdiv x16 8)) then (if (bt326.1.length : Int) = (wrap64 (Int.tdiv x16 8)) then (attestorlaw09_FoldLinear.j1 k x5 x16 ([] : List Int) bt322.1 bt326.1 bt330.1 x305000 x305001 x305002) else (none)) else (none)) else (none)) else (none)) else (none)))))
def attestorlaw09_FoldLinear.j1 : Nat → Int → Int → List Int → List Int → List Int → List Int → Int → Int → Int → Option (Bool)
 | 0, _, _, _, _, _, _, _, _, _ => none
 | k + 1, x5, x16, x20, x22, x24, x26, x305000, x305001, x305002 => attestorlaw09_FoldLinear.l1 k x5 x16 x20 x22 x24 x26 0 x305000 x305001 x305002
def attestorlaw09_FoldLinear.l1 : Nat → Int → Int → List Int → List Int → List Int → List Int → Int → Int → Int → Int → Option (Bool)
 | 0, _, _, _, _, _, _, _, _, _, _ => none
 | k + 1, x5, x16, x20, x22, x24, x26, x28, x305000, x305001, x305002 => if x28 < (wrap64 (Int.tdiv x16 8)) then (if 0 ≤ x28 then (if x28 < (x22.length : Int) then ((field_Mul.f x305000 (rd x22 x28) x5).bind fun t335 => (if x28 < (x24.length : Int) then ((field_Add.f x305000 t335 (rd x24 x28)).bind fun t337 => (if x20.length < 17592186044416 then (attestorlaw09_FoldLinear.l1 k x5 x16 (x20 ++ [t337]) x22 x24 x26 (wrap64 (x28 + 1)) x305000 x305001 x305002) else (none))) else (none))) else (none)) else (none)) else ((attestorlaw09_same.f k x26 x20).bind fun t341 => (if t341 = true then ((attestorlaw09_works.f k).bind fun t342 => (some t342)) else (none)))
end
def attestorlaw09_FoldLinear.f (k : Nat) (a0 : Int) (a1 : Int) (a2 : Int) (l3 : List Int) (l4 : List Int) (a5 : Int) (a6 : Int) : Option (Bool) := (attestorlaw09_domain.f a0 a1 a2).bind fun bt301 => (if 0 ≤ (IntKind.u64.wrap (bt301.2.1)) then (if 0 ≤ (shl .i64 1 (IntKind.u64.wrap (bt301.2.1))) then (if (shl .i64 1 (IntKind.u64.wrap (bt301.2.1)) : Int).toNat ≤ 35184372088832 then (attestorlaw09_FoldLinear.l0 k a5 a6 (shl .i64 1 (IntKind.u64.wrap (bt301.2.1))) (cpyAt (List.replicate (shl .i64 1 (IntKind.u64.wrap (bt301.2.1)) : Int).toNat 0) 0 l3) (cpyAt (List.replicate (shl .i64 1 (IntKind.u64.wrap (bt301.2.1)) : Int).toNat 0) 0 l4) ([] : List Int) 0 bt301.1 bt301.2.1 bt301.2.2) else (none)) else (none)) else (none))
def attestorlaw09_FoldLinear.T10 : Bool × List (List Nat × List Nat) := (true, [([], []), ([], []), ([1], [1]), ([], []), ([3], [3]), ([], []), ([], []), ([5, 6], [5, 6]), ([7], [7]), ([], []), ([4, 8, 9], [4, 8, 9]), ([], []), ([], []), ([11, 12], [11, 12]), ([13], [13]), ([2, 10, 14, 10], [2, 10, 14]), ([15], [15]), ([0, 16, 15], [0, 16]), ([17, 17, 0, 1, 2, 3, 4, 5, 6, 7, 8, 9, 10, 11, 12, 13, 14, 15, 16, 17], [0, 17])])
def attestorlaw09_FoldLinear.B10 : List Nat := [0, 0, 2, 0, 8, 0, 0, 96, 224, 0, 1016, 0, 0, 6144, 14336, 32766, 65534, 131071, 262143]
theorem attestorlaw09_FoldLinear.tab10 : rtab .any (opsOf Tryd.f4 10) = attestorlaw09_FoldLinear.T10 := by kernel_rfl
theorem attestorlaw09_FoldLinear.bits10 : waitsOk attestorlaw09_FoldLinear.T10.2 attestorlaw09_FoldLinear.B10 = true := by kernel_rfl
def attestorlaw09_FoldLinear.T19 : Bool × List (List Nat × List Nat) := (true, [([], []), ([], []), ([1], [1]), ([], []), ([3], [3]), ([], []), ([], []), ([5, 6], [5, 6]), ([7], [7]), ([], []), ([4, 8, 9], [4, 8, 9]), ([], []), ([], []), ([11, 12], [11, 12]), ([13], [13]), ([2, 10, 14, 10], [2, 10, 14]), ([15], [15]), ([0, 16, 15], [0, 16]), ([17, 17, 0, 1, 2, 3, 4, 5, 6, 7, 8, 9, 10, 11, 12, 13, 14, 15, 16, 17], [0, 17])])
def attestorlaw09_FoldLinear.B19 : List Nat := [0, 0, 2, 0, 8, 0, 0, 96, 224, 0, 1016, 0, 0, 6144, 14336, 32766, 65534, 131071, 262143]
theorem attestorlaw09_FoldLinear.tab19 : rtab .any (opsOf Tryd.f4 19) = attestorlaw09_FoldLinear.T19 := by kernel_rfl
theorem attestorlaw09_FoldLinear.bits19 : waitsOk attestorlaw09_FoldLinear.T19.2 attestorlaw09_FoldLinear.B19 = true := by kernel_rfl
set_option maxHeartbeats 8000000 in
set_option maxRecDepth 100000 in
theorem attestorlaw09_FoldLinear.calls (k : Nat) (a0 : Int) (a1 : Int) (a2 : Int) (A3 : Option Addr) (c3 : Nat) (l3 : List Int) (A4 : Option Addr) (c4 : Nat) (l4 : List Int) (a5 : Int) (a6 : Int) (r : Bool) (w : World) (hG : Fld w) (hr3 : Kd.C (Kd.int .u64) w A3 l3.length l3) (hc3 : l3.length ≤ c3) (hr4 : Kd.C (Kd.int .u64) w A4 l4.length l4) (hc4 : l4.length ≤ c4) (h : attestorlaw09_FoldLinear.f k a0 a1 a2 l3 l4 a5 a6 = some r) :
  Calls Tryd.prog 4 #[.int .u8 a0, .int .u8 a1, .int .u64 a2, .slice A3 l3.length c3, .slice A4 l4.length c4, .int .u64 a5, .int .u64 a6] w fun e w' => e = .returned (.bool r) ∧ Below w.heap.size w w' := by
 have hu24 := Tryd.underlying24
 have HG := ak hG
 clear hG
 have HR3 := ak hr3
 have HC3 := ak hc3
 clear hr3 hc3
 have HR4 := ak hr4
 have HC4 := ak hc4
 clear hr4 hc4
 have HB := ak (Below.refl w.heap.size w)
 have H : ((attestorlaw09_domain.f a0 a1 a2).bind fun bt301 => (if 0 ≤ (IntKind.u64.wrap (bt301.2.1)) then (if 0 ≤ (shl .i64 1 (IntKind.u64.wrap (bt301.2.1))) then (if (shl .i64 1 (IntKind.u64.wrap (bt301.2.1)) : Int).toNat ≤ 35184372088832 then (attestorlaw09_FoldLinear.l0 k a5 a6 (shl .i64 1 (IntKind.u64.wrap (bt301.2.1))) (cpyAt (List.replicate (shl .i64 1 (IntKind.u64.wrap (bt301.2.1)) : Int).toNat 0) 0 l3) (cpyAt (List.replicate (shl .i64 1 (IntKind.u64.wrap (bt301.2.1)) : Int).toNat 0) 0 l4) ([] : List Int) 0 bt301.1 bt301.2.1 bt301.2.2) else (none)) else (none)) else (none))) = some r := h
 clear h
 revert H
 refine bd3_ fun t301 t302 t303 A8 H => ?_
 try dsimp only at H
 obtain ⟨ji9, hji9⟩ : ∃ j_ : Int, (IntKind.u64.wrap (t302)) = j_ := ⟨_, rfl⟩
 first | rw [hji9] at H | simp only [hji9] at H
 (try rw [hji9] at A8)
 obtain ⟨c10, H⟩ : (0 ≤ (ji9)) ∧ _ := it_ H
 have c10b0 := eq_true c10
 have c10b1 := decide_eq_true c10
 clear c10
 obtain ⟨ji11, hji11⟩ : ∃ j_ : Int, (shl .i64 1 (ji9)) = j_ := ⟨_, rfl⟩
 first | rw [hji11] at H | simp only [hji11] at H
 (try rw [hji11] at A8)
 have hji11_ : (IntKind.i64.wrap (1 * 2 ^ min (ji9).toNat 64)) = ji11 := hji11
 have hji11z : (ji9) ≤ 64 → (IntKind.i64.wrap (1 * 2 ^ (ji9).toNat)) = ji11 := shl_small hji11
 have hji11u : (IntKind.i64.wrap (2 ^ min (ji9).toNat 64)) = ji11 := by have h_ := hji11_; rw [Int.one_mul] at h_; exact h_
 have hji11v : (ji9) ≤ 64 → (IntKind.i64.wrap (2 ^ (ji9).toNat)) = ji11 := fun hle_ => by have h_ := hji11z hle_; rw [Int.one_mul] at h_; exact h_
 have hji11y : (wrap64 (1 * 2 ^ min (ji9).toNat 64)) = ji11 := (i64_w _).symm.trans hji11_
 have hji11x : (ji9) ≤ 64 → (wrap64 (1 * 2 ^ (ji9).toNat)) = ji11 := fun h_ => (i64_w _).symm.trans (hji11z h_)
 obtain ⟨c12, H⟩ : (0 ≤ (ji11)) ∧ _ := it_ H
 have c12b0 := eq_true c12
 have c12b1 := decide_eq_true c12
 clear c12
 obtain ⟨c13, H⟩ : ((ji11 : Int).toNat ≤ 35184372088832) ∧ _ := it_ H
 have c13b0 := eq_true c13
 have c13b1 := decide_eq_true c13
 clear c13
 obtain ⟨y305, hy305⟩ : ∃ y_ : List Int, y_ = (List.replicate (ji11 : Int).toNat 0) := ⟨_, rfl⟩
 replace H : (attestorlaw09_FoldLinear.l0 k a5 a6 ji11 (cpyAt y305 0 l3) (cpyAt (List.replicate (ji11 : Int).toNat 0) 0 l4) ([] : List Int) 0 t301 t302 t303) = some r := by first | (rw [hy305]; with_reducible exact H) | (have H2_ := (Option.bind_some _ _).symm.trans H; rw [hy305]; with_reducible exact H2_) | (have H2_ := (Option.bind_some _ _).symm.trans H; with_reducible exact H2_) | with_reducible exact H | (rw [hy305]; exact H) | exact H
 have Ny305 := ak hy305
 clear hy305
 obtain ⟨y308, hy308⟩ : ∃ y_ : List Int, y_ = (List.replicate (ji11 : Int).toNat 0) := ⟨_, rfl⟩
 first | rw [Option.bind_some, ← hy308] at H | rw [← hy308] at H
 have Ny308 := ak hy308
 clear hy308
 obtain ⟨y311, hy311⟩ : ∃ y_ : List Int, y_ = (cpyAt y305 0 l3) := ⟨_, rfl⟩
 first | rw [Option.bind_some, ← hy311] at H | rw [← hy311] at H
 have Ny311 := ak hy311
 clear hy311
 obtain ⟨y313, hy313⟩ : ∃ y_ : List Int, y_ = (cpyAt y308 0 l4) := ⟨_, rfl⟩
 first | rw [Option.bind_some, ← hy313] at H | rw [← hy313] at H
 have Ny313 := ak hy313
 clear hy313
 have H' := ak H
 clear H
 go_enter Tryd.func4, Tryd.ntmps4
 try go_wp2_with (first | ((with_reducible refine gate_callee (f := 17) rfl ?_); refine gl_ (some 32) Tryd.func17 #[.int .u8 a0, .int .u8 a1, .int .u64 a2] ?_; (with_reducible refine (attestorlaw09_domain.calls a0 a1 a2 t301 t302 t303 _ ?side1 A8.out).mono ?_); (case side1 => exact fU_ HG.out HB.out); rintro e w14 ⟨rfl, hb⟩; refine ⟨_, rfl, ?_⟩; refine nx1_ (below_step (bU_ HB.out) hb) ?_; clear HB; intro HB; clear hb) | ((with_reducible refine gate_dst (N := 15) rfl ?_); (try (refine gate_guard (by rfl) ?_; dsimp only)); refine box_event ?hg (N := 15) ?hd (cs := #[.int .i64 0, .int .i64 0, .int .u64 0]) (t := 24) ?hr ?_; (case hd => rfl); (case hg => rfl); (case hr => first | (go_simp; done) | (go_simp; rfl)); intro gb304 hg w15 hbox hb; refine nx4_ (below_step (bU_ HB.out) hb) (hbox) ((by rw [hg]; exact (below_size (bU_ HB.out)) : w.heap.size ≤ gb304)) ((by rw [hg]; exact (below_size (bU_ HB.out)) : w.heap.size ≤ gb304)) ?_; clear HB; intro HB BK304 GW304 GE304; clear hb hbox hg; have hcz16_0 : w15.cell? ⟨gb304, 0, none⟩ = some (.int .i64 0) := (blk_cell BK304.out 0).trans rfl; have hcz16_1 : w15.cell? ⟨gb304, 1, none⟩ = some (.int .i64 0) := (blk_cell BK304.out 1).trans rfl; have hcz16_2 : w15.cell? ⟨gb304, 2, none⟩ = some (.int .u64 0) := (blk_cell BK304.out 2).trans rfl; have hfz16_0 := blk_frozen BK304.out 0; have hfz16_1 := blk_frozen BK304.out 1; have hfz16_2 := blk_frozen BK304.out 2))
 have n0_ : Aside0 ((((w15.setCell ⟨gb304, 0, none⟩ (.int .i64 t301)).setCell ⟨gb304, 1, none⟩ (.int .i64 t302)).setCell ⟨gb304, 2, none⟩ (.int .u64 t303)).heap[gb304]? = some (.cells #[.int .i64 t301, .int .i64 t302, .int .u64 t303] 24 (0, 0))) := ⟨by (with_reducible repeat (first | refine blk_drewN ?_ _ | refine blk_drew ?_ | refine blk_alloc ?_ _)); refine blk_put (cs := #[.int .i64 t301, .int .i64 t302, .int .u64 0]) ?_ 2 _ rfl; (with_reducible repeat (first | refine blk_drewN ?_ _ | refine blk_drew ?_ | refine blk_alloc ?_ _)); refine blk_put (cs := #[.int .i64 t301, .int .i64 0, .int .u64 0]) ?_ 1 _ rfl; (with_reducible repeat (first | refine blk_drewN ?_ _ | refine blk_drew ?_ | refine blk_alloc ?_ _)); refine blk_put (cs := #[.int .i64 0, .int .i64 0, .int .u64 0]) ?_ 0 _ rfl; (with_reducible repeat (first | refine blk_drewN ?_ _ | refine blk_drew ?_ | refine blk_alloc ?_ _)); exact BK304.out⟩
 have n1_ : Aside0 (Below w.heap.size w (((w15.setCell ⟨gb304, 0, none⟩ (.int .i64 t301)).setCell ⟨gb304, 1, none⟩ (.int .i64 t302)).setCell ⟨gb304, 2, none⟩ (.int .u64 t303))) := ⟨by repeat (first | (with_reducible first | exact HB.out | apply below_alloc | apply pw_below_drewN | apply below_drew1 | refine below_set ?_ GE304.out) | exact HB.out)⟩
 (try clear BK304)
 (try clear HB)
 generalize (((w15.setCell ⟨gb304, 0, none⟩ (.int .i64 t301)).setCell ⟨gb304, 1, none⟩ (.int .i64 t302)).setCell ⟨gb304, 2, none⟩ (.int .u64 t303)) = w17 at n0_ n1_ ⊢
 have BK304 := n0_
 have HB := n1_
 clear n0_ n1_
 refine nx2_ (blk_drew BK304.out) (below_drew1 HB.out) ?_
 clear BK304 HB
 intro BK304 HB
 refine start_ (n := 6) (S := fun w' => True) (ds := []) (bv 6 0) (by kernel_rfl) rfl rfl trivial (fun hHeld => ?_)
 generalize w17.drew = w18 at BK304 HB hHeld ⊢
 refine pure_ (i := 0) (N := some 37) (v := ?_) (a' := ?_) (bv 6 1) rfl rfl (by kernel_rfl) (fun _ _ _ h => h) (Or.inl ⟨by rfl, ?_⟩) ?_ ?_
 rotate_left
 ·intro w'
  go_simp
  with_reducible rfl
 rotate_left
 ·simp only [Act.put, s1_, s2_, s3_, i64_w, i32_w]
  rfl
 refine pure_ (i := 2) (N := some 39) (v := ?_) (a' := ?_) (bv 6 5) rfl rfl (by kernel_rfl) (fun _ _ _ h => h) (Or.inl ⟨by rfl, ?_⟩) ?_ ?_
 rotate_left
 ·intro w'
  go_simp
  with_reducible rfl
 rotate_left
 ·simp only [Act.put, s1_, s2_, s3_, i64_w, i32_w]
  rfl
 refine join_ (σ := Value × Value) 1 #[true, true, true, true, true, false] (fun s_ => [(38, s_.1), (40, s_.2), (17, s_.1)]) (fun s_ w' => (Kd.R (Kd.int .u64) 22 w' w.heap.size (fun k_ => some k_ ≠ (s_.2 : Value).ownBlock) s_.1 y305) ∧ (Kd.R (Kd.int .u64) 22 w' w.heap.size (fun k_ => some k_ ≠ (s_.1 : Value).ownBlock) s_.2 y308) ∧ (w'.heap[gb304]? = some (.cells #[.int .i64 t301, .int .i64 t302, .int .u64 t303] 24 (0, 0))) ∧ (Below w.heap.size w w')) ?_ ?_
 rotate_left
 ·intro hCont
  refine two_ (i := 1) (j := 3) (Ni := some 38) (Nj := some 40) (bv 6 7) (bv 6 13) rfl rfl rfl rfl (by kernel_rfl) (by decide) (by decide) (fun K hK => ?_) (fun K hK => ?_)
  ·skip
   refine Kd.R_make_step (Kd.int .u64) _ 22 (by rfl) (N := 38) rfl 33 _ _ rfl ji11 ?hx ?hy Tryd.underlying33 (.int .u64 0) 8 info22 rfl (by decide) (by omega) 0 (ok := fun _ => True) (okp := fun _ => True) rfl (fun _ hk => hk) trivial od_ (Nat.le_trans (Nat.mul_le_mul_right _ (od_ : ji11.toNat ≤ 35184372088832)) (by omega)) (Below.refl _ _) (Nat.le_refl _) ?_
   (case hx => first | rfl | (simp only [hji9, hji11]; rfl))
   (case hy => first | rfl | (simp only [hji9, hji11]; rfl))
   intro v306 w19 ho20 hb hg_ hnew_
   clear hg_ hnew_
   (first | rw [← Ny305.out] at ho20 | (simp only [Int.reduceToNat] at ho20; rw [← Ny305.out] at ho20))
   refine nx3_ (Kd.R_lower ho20 (below_size (by repeat (first | (with_reducible first | exact HB.out | apply below_alloc | apply pw_below_drewN | apply below_drew1 | refine below_set ?_ GE304.out) | exact HB.out)))) (blk_below (g := gb304) (o := .cells #[.int .i64 t301, .int .i64 t302, .int .u64 t303] 24 (0, 0)) (by (with_reducible repeat (first | refine blk_drewN ?_ _ | refine blk_drew ?_ | refine blk_alloc ?_ _)); exact BK304.out) hb) (below_step (by repeat (first | (with_reducible first | exact HB.out | apply below_alloc | apply pw_below_drewN | apply below_drew1 | refine below_set ?_ GE304.out) | exact HB.out)) hb) ?_
   clear BK304 HB
   intro HO307 BK304 HB
   clear hb ho20
   refine hK.out _ _ trivial (fun hHeld => ?_)
   clear hK K
   refine norm_ (a' := ?_) ?_ ?_
   rotate_left
   ·show Act.put _ (some 38) _ = _
    simp only [Act.put, s1_, s2_, s3_, i64_w, i32_w]
    rfl
   refine pure_ (i := 4) (N := some 17) (v := ?_) (a' := ?_) (bv 6 23) rfl rfl (by kernel_rfl) (fun _ _ _ h => h) (Or.inl ⟨by rfl, ?_⟩) ?_ ?_
   rotate_left
   ·intro w'
    go_simp
    with_reducible rfl
   rotate_left
   ·simp only [Act.put, s1_, s2_, s3_, i64_w, i32_w]
    rfl
   refine one_ (i := 3) (N := some 40) (bv 6 31) rfl rfl (by kernel_rfl) (by decide) (fun K hK => ?_)
   refine Kd.R_make_step (Kd.int .u64) _ 22 (by rfl) (N := 40) rfl 33 _ _ rfl ji11 ?hx ?hy Tryd.underlying33 (.int .u64 0) 8 info22 rfl (by decide) (by omega) 0 (ok := fun _ => True) (okp := fun _ => True) rfl (fun _ hk => hk) trivial od_ (Nat.le_trans (Nat.mul_le_mul_right _ (od_ : ji11.toNat ≤ 35184372088832)) (by omega)) (Below.refl _ _) (Nat.le_refl _) ?_
   (case hx => first | rfl | (simp only [hji9, hji11]; rfl))
   (case hy => first | rfl | (simp only [hji9, hji11]; rfl))
   intro v309 w21 ho22 hb hg_ hnew_
   clear hg_ hnew_
   (first | rw [← Ny308.out] at ho22 | (simp only [Int.reduceToNat] at ho22; rw [← Ny308.out] at ho22))
   refine nx4_ (Kd.R_elder' (rU_ HO307.out) (Kd.R_base ho22) hb) (Kd.R_lower (Kd.R_new' ho22 (Kd.R_lt (rU_ HO307.out))) (below_size (by repeat (first | (with_reducible first | exact HB.out | apply below_alloc | apply pw_below_drewN | apply below_drew1 | refine below_set ?_ GE304.out) | exact HB.out)))) (blk_below (g := gb304) (o := .cells #[.int .i64 t301, .int .i64 t302, .int .u64 t303] 24 (0, 0)) (by (with_reducible repeat (first | refine blk_drewN ?_ _ | refine blk_drew ?_ | refine blk_alloc ?_ _)); exact BK304.out) hb) (below_step (by repeat (first | (with_reducible first | exact HB.out | apply below_alloc | apply pw_below_drewN | apply below_drew1 | refine below_set ?_ GE304.out) | exact HB.out)) hb) ?_
   clear HO307 BK304 HB
   intro HO307 HO310 BK304 HB
   clear hb ho22
   refine hK.out _ _ trivial (fun hHeld => ?_)
   clear hK K
   refine norm_ (a' := ?_) ?_ ?_
   rotate_left
   ·show Act.put _ (some 40) _ = _
    simp only [Act.put, s1_, s2_, s3_, i64_w, i32_w]
    rfl
   exact norm_ (by simp only [putAll, Act.put, List.setIfInBounds_toArray, List.set_cons_zero, List.set_cons_succ]) (hCont (v306, v309) _ ⟨(Kd.R_mono (rU_ HO307.out) (fun _ hk => hk.2)), (Kd.R_mono (rU_ HO310.out) (fun _ hk => hk.2)), (by (with_reducible repeat (first | refine blk_drewN ?_ _ | refine blk_drew ?_ | refine blk_alloc ?_ _)); exact BK304.out), (by repeat (first | (with_reducible first | exact HB.out | apply below_alloc | apply pw_below_drewN | apply below_drew1 | refine below_set ?_ GE304.out) | exact HB.out))⟩)
  ·skip
   refine Kd.R_make_step (Kd.int .u64) _ 22 (by rfl) (N := 40) rfl 33 _ _ rfl ji11 ?hx ?hy Tryd.underlying33 (.int .u64 0) 8 info22 rfl (by decide) (by omega) 0 (ok := fun _ => True) (okp := fun _ => True) rfl (fun _ hk => hk) trivial od_ (Nat.le_trans (Nat.mul_le_mul_right _ (od_ : ji11.toNat ≤ 35184372088832)) (by omega)) (Below.refl _ _) (Nat.le_refl _) ?_
   (case hx => first | rfl | (simp only [hji9, hji11]; rfl))
   (case hy => first | rfl | (simp only [hji9, hji11]; rfl))
   intro v309 w19 ho20 hb hg_ hnew_
   clear hg_ hnew_
   (first | rw [← Ny308.out] at ho20 | (simp only [Int.reduceToNat] at ho20; rw [← Ny308.out] at ho20))
   refine nx3_ (Kd.R_lower ho20 (below_size (by repeat (first | (with_reducible first | exact HB.out | apply below_alloc | apply pw_below_drewN | apply below_drew1 | refine below_set ?_ GE304.out) | exact HB.out)))) (blk_below (g := gb304) (o := .cells #[.int .i64 t301, .int .i64 t302, .int .u64 t303] 24 (0, 0)) (by (with_reducible repeat (first | refine blk_drewN ?_ _ | refine blk_drew ?_ | refine blk_alloc ?_ _)); exact BK304.out) hb) (below_step (by repeat (first | (with_reducible first | exact HB.out | apply below_alloc | apply pw_below_drewN | apply below_drew1 | refine below_set ?_ GE304.out) | exact HB.out)) hb) ?_
   clear BK304 HB
   intro HO310 BK304 HB
   clear hb ho20
   refine hK.out _ _ trivial (fun hHeld => ?_)
   clear hK K
   refine norm_ (a' := ?_) ?_ ?_
   rotate_left
   ·show Act.put _ (some 40) _ = _
    simp only [Act.put, s1_, s2_, s3_, i64_w, i32_w]
    rfl
   refine one_ (i := 1) (N := some 38) (bv 6 15) rfl rfl (by kernel_rfl) (by decide) (fun K hK => ?_)
   refine Kd.R_make_step (Kd.int .u64) _ 22 (by rfl) (N := 38) rfl 33 _ _ rfl ji11 ?hx ?hy Tryd.underlying33 (.int .u64 0) 8 info22 rfl (by decide) (by omega) 0 (ok := fun _ => True) (okp := fun _ => True) rfl (fun _ hk => hk) trivial od_ (Nat.le_trans (Nat.mul_le_mul_right _ (od_ : ji11.toNat ≤ 35184372088832)) (by omega)) (Below.refl _ _) (Nat.le_refl _) ?_
   (case hx => first | rfl | (simp only [hji9, hji11]; rfl))
   (case hy => first | rfl | (simp only [hji9, hji11]; rfl))
   intro v306 w21 ho22 hb hg_ hnew_
   clear hg_ hnew_
   (first | rw [← Ny305.out] at ho22 | (simp only [Int.reduceToNat] at ho22; rw [← Ny305.out] at ho22))
   refine nx4_ (Kd.R_elder' (rU_ HO310.out) (Kd.R_base ho22) hb) (Kd.R_lower (Kd.R_new' ho22 (Kd.R_lt (rU_ HO310.out))) (below_size (by repeat (first | (with_reducible first | exact HB.out | apply below_alloc | apply pw_below_drewN | apply below_drew1 | refine below_set ?_ GE304.out) | exact HB.out)))) (blk_below (g := gb304) (o := .cells #[.int .i64 t301, .int .i64 t302, .int .u64 t303] 24 (0, 0)) (by (with_reducible repeat (first | refine blk_drewN ?_ _ | refine blk_drew ?_ | refine blk_alloc ?_ _)); exact BK304.out) hb) (below_step (by repeat (first | (with_reducible first | exact HB.out | apply below_alloc | apply pw_below_drewN | apply below_drew1 | refine below_set ?_ GE304.out) | exact HB.out)) hb) ?_
   clear HO310 BK304 HB
   intro HO310 HO307 BK304 HB
   clear hb ho22
   refine hK.out _ _ trivial (fun hHeld => ?_)
   clear hK K
   refine norm_ (a' := ?_) ?_ ?_
   rotate_left
   ·show Act.put _ (some 38) _ = _
    simp only [Act.put, s1_, s2_, s3_, i64_w, i32_w]
    rfl
   refine pure_ (i := 4) (N := some 17) (v := ?_) (a' := ?_) (bv 6 31) rfl rfl (by kernel_rfl) (fun _ _ _ h => h) (Or.inl ⟨by rfl, ?_⟩) ?_ ?_
   rotate_left
   ·intro w'
    go_simp
    with_reducible rfl
   rotate_left
   ·simp only [Act.put, s1_, s2_, s3_, i64_w, i32_w]
    rfl
   exact norm_ (by simp only [putAll, Act.put, List.setIfInBounds_toArray, List.set_cons_zero, List.set_cons_succ]) (hCont (v306, v309) _ ⟨(Kd.R_mono (rU_ HO307.out) (fun _ hk => hk.2)), (Kd.R_mono (rU_ HO310.out) (fun _ hk => hk.2)), (by (with_reducible repeat (first | refine blk_drewN ?_ _ | refine blk_drew ?_ | refine blk_alloc ?_ _)); exact BK304.out), (by repeat (first | (with_reducible first | exact HB.out | apply below_alloc | apply pw_below_drewN | apply below_drew1 | refine below_set ?_ GE304.out) | exact HB.out))⟩)
 rintro ⟨v306, v309⟩ w23 ⟨h0_, h1_, h2_, h3_⟩
 have n0_ : Aside0 (Kd.R (Kd.int .u64) 22 w23 w.heap.size (fun k_ => some k_ ≠ (v309 : Value).ownBlock) v306 y305) := ⟨h0_⟩
 have n1_ : Aside0 (Kd.R (Kd.int .u64) 22 w23 w.heap.size (fun k_ => some k_ ≠ (v306 : Value).ownBlock) v309 y308) := ⟨h1_⟩
 have n2_ : Aside0 (w23.heap[gb304]? = some (.cells #[.int .i64 t301, .int .i64 t302, .int .u64 t303] 24 (0, 0))) := ⟨h2_⟩
 have n3_ : Aside0 (Below w.heap.size w w23) := ⟨h3_⟩
 clear BK304
 clear HB
 clear h0_ h1_ h2_ h3_
 have HO307 := n0_
 have HO310 := n1_
 have BK304 := n2_
 have HB := n3_
 clear n0_ n1_ n2_ n3_
 have hHeld := trivial
 refine norm_ (a' := ?_) ?_ ?_
 rotate_left
 ·simp only [putAll, Act.put, List.setIfInBounds_toArray, List.set_cons_zero, List.set_cons_succ]
  rfl
 refine pure_ (i := 5) (N := some 18) (v := ?_) (a' := ?_) (bv 6 63) rfl rfl (by kernel_rfl) (fun _ _ _ h => h) (Or.inl ⟨by rfl, ?_⟩) ?_ ?_
 rotate_left
 ·intro w'
  go_simp
  with_reducible rfl
 rotate_left
 ·simp only [Act.put, s1_, s2_, s3_, i64_w, i32_w]
  rfl
 refine done_ (by kernel_rfl) ?_
 obtain ⟨Ao25, co25, eo25⟩ := Kd.R_slice HO307.out
 subst eo25
 try go_wp2_with (first | ((with_reducible refine gate_builtin (b := .copy) (xs := #[.tmp 41, .tmp 42]) rfl ?_); (try (refine gate_guard (by rfl) ?_; dsimp only)); skip; refine copy_own_ .u64 (w0 := w) w.heap.size rfl (.tmp 41) (.tmp 42) 33 33 22 rfl Tryd.underlying33 (show (Tryd.prog.info? 22).map (·.size) = some 1 by kernel_rfl) (.slice Ao25 y305.length co25) y305 l3 _ _ _ (fun k_ => some k_ ≠ (v309 : Value).ownBlock) rfl rfl ?aO ?aR (fun _ _ h => h) ?aF ?aB ?aS ?_; (case aR => exact cU_ (Kd.C_below HR3.out HB.out)); (case aB => exact (by repeat (first | (with_reducible first | exact HB.out | apply below_alloc | apply pw_below_drewN | apply below_drew1 | refine below_set ?_ GE304.out) | exact HB.out))); (case aF => exact (fun k_ hk => Kd.fresh' (Kd.R_lt (rU_ HO310.out)) k_ hk)); (case aO => exact (rU_ HO307.out)); (case aS => exact (below_size (by repeat (first | (with_reducible first | exact HB.out | apply below_alloc | apply pw_below_drewN | apply below_drew1 | refine below_set ?_ GE304.out) | exact HB.out)))); intro w24 ho hb hg hat; rw [← Ny311.out] at ho; refine nx4_ (blk_grown (g := gb304) (o := .cells #[.int .i64 t301, .int .i64 t302, .int .u64 t303] 24 (0, 0)) (by (with_reducible repeat (first | refine blk_drewN ?_ _ | refine blk_drew ?_ | refine blk_alloc ?_ _)); exact BK304.out) hg (Kd.R_ne HO307.out BK304.out (by decide))) (Kd.R_after (ok := (fun _ => True)) (Kd.R_mono (rU_ HO310.out) (fun _ hk => ⟨trivial, hk⟩)) hg (hat.imp_right False.elim)) (hb) (ho) ?_; clear BK304 HO310 HB HO307; intro BK304 HO310 HB HO312; clear ho hb hg hat; obtain ⟨Ao27, co27, eo27⟩ := Kd.R_slice HO310.out; subst eo27) | ((with_reducible refine gate_builtin (b := .copy) (xs := #[.tmp 44, .tmp 45]) rfl ?_); (try (refine gate_guard (by rfl) ?_; dsimp only)); skip; refine copy_own_ .u64 (w0 := w) w.heap.size rfl (.tmp 44) (.tmp 45) 33 33 22 rfl Tryd.underlying33 (show (Tryd.prog.info? 22).map (·.size) = some 1 by kernel_rfl) (.slice Ao27 y308.length co27) y308 l4 _ _ _ (fun k_ => some k_ ≠ (.slice Ao25 y305.length co25 : Value).ownBlock) rfl rfl ?aO ?aR (fun _ _ h => h) ?aF ?aB ?aS ?_; (case aR => exact cU_ (Kd.C_below HR4.out HB.out)); (case aB => exact (by repeat (first | (with_reducible first | exact HB.out | apply below_alloc | apply pw_below_drewN | apply below_drew1 | refine below_set ?_ GE304.out) | exact HB.out))); (case aF => exact (fun k_ hk => Kd.fresh' (Kd.R_lt (rU_ HO312.out)) k_ hk)); (case aO => exact (Kd.R_mono (rU_ HO310.out) (fun _ hk => hk.2))); (case aS => exact (below_size (by repeat (first | (with_reducible first | exact HB.out | apply below_alloc | apply pw_below_drewN | apply below_drew1 | refine below_set ?_ GE304.out) | exact HB.out)))); intro w26 ho hb hg hat; rw [← Ny313.out] at ho; refine nx4_ (blk_grown (g := gb304) (o := .cells #[.int .i64 t301, .int .i64 t302, .int .u64 t303] 24 (0, 0)) (by (with_reducible repeat (first | refine blk_drewN ?_ _ | refine blk_drew ?_ | refine blk_alloc ?_ _)); exact BK304.out) hg (Kd.R_ne HO310.out BK304.out (by decide))) (Kd.R_after (ok := (fun _ => True)) (Kd.R_mono (rU_ HO312.out) (fun _ hk => ⟨trivial, hk⟩)) hg (hat.imp_right False.elim)) (hb) (ho) ?_; clear BK304 HO312 HB HO310; intro BK304 HO312 HB HO314; clear ho hb hg hat))
 go_loopg [19, 21] k (fun kq v19 v21 w' => ∃ (x19_1 : List Int) (x21_1 : Int), v21 = .int .i64 x21_1 ∧ Aside0 (attestorlaw09_FoldLinear.l0 kq a5 a6 ji11 y311 y313 x19_1 x21_1 t301 t302 t303 = some r) ∧ Aside0 (kq ≤ k) ∧ Aside0 (Kd.R (Kd.int .u64) 22 w' w.heap.size (fun k_ => some k_ ≠ ((.slice Ao27 y308.length co27) : Value).ownBlock ∧ some k_ ≠ (v19 : Value).ownBlock) (.slice Ao25 y305.length co25) y311) ∧ Aside0 (Kd.R (Kd.int .u64) 22 w' w.heap.size (fun k_ => some k_ ≠ ((.slice Ao25 y305.length co25) : Value).ownBlock ∧ some k_ ≠ (v19 : Value).ownBlock) (.slice Ao27 y308.length co27) y313) ∧ Aside0 (Kd.R (Kd.int .u64) 22 w' w.heap.size (fun k_ => some k_ ≠ ((.slice Ao25 y305.length co25) : Value).ownBlock ∧ some k_ ≠ ((.slice Ao27 y308.length co27) : Value).ownBlock) v19 x19_1) ∧ Aside0 (w'.heap[gb304]? = some (.cells #[.int .i64 t301, .int .i64 t302, .int .u64 t303] 24 (0, 0))) ∧ Aside0 (Below w.heap.size w w'))
 case atStart => exact ⟨(([] : List Int)), (0), gb_, H', ⟨Nat.le_refl _⟩, ⟨Kd.R_mono (rU_ HO312.out) (fun _ hk => ⟨hk.2, (by simp [Value.ownBlock])⟩)⟩, ⟨Kd.R_mono (rU_ HO314.out) (fun _ hk => ⟨hk, (by simp [Value.ownBlock])⟩)⟩, ⟨by first | exact Kd.R_nil _ _ _ _ _ | exact Kd.N_nil _ _ _ _ _ | exact Kd.V_nil _ _ _ _ _ | exact Kd.Q_nil _ _ _ _ _ | exact Kd.S_nil _ _ _ _ _⟩, ⟨by (with_reducible repeat (first | refine blk_drewN ?_ _ | refine blk_drew ?_ | refine blk_alloc ?_ _)); exact BK304.out⟩, ⟨by repeat (first | (with_reducible first | exact HB.out | apply below_alloc | apply pw_below_drewN | apply below_drew1 | refine below_set ?_ GE304.out) | exact HB.out)⟩⟩
 case round =>
  clear H'
  (try clear c1); (try clear p2); (try clear c3); (try clear c4); (try clear p6); (try clear c10); (try clear c10b0); (try clear c10b1); (try clear c12); (try clear c12b0); (try clear c12b1); (try clear c13); (try clear c13b0); (try clear c13b1); (try clear c17); (try clear hcz16_0); (try clear hcz16_1); (try clear hcz16_2); (try clear hfz16_0); (try clear hfz16_1); (try clear hfz16_2)
  obtain ⟨x19_1, x21_1, rfl, HA, HK1, HO_17, HO_18, HO_19, BK304, HB⟩ := hrel
  have hl17_1 := (Kd.R_reads' HO_17.out).1
  rw [hl17_1] at HO_17
  (try simp only [hl17_1])
  (try simp only [hl17_1] at BK304)
  (try simp only [hl17_1] at HO_18)
  (try simp only [hl17_1] at HO_19)
  have hl18_1 := (Kd.R_reads' HO_18.out).1
  rw [hl18_1] at HO_18
  (try simp only [hl18_1])
  (try simp only [hl18_1] at BK304)
  (try simp only [hl18_1] at HO_17)
  (try simp only [hl18_1] at HO_19)
  cases gk with
  | zero => exact absurd HA.out (by simp [attestorlaw09_FoldLinear.l0])
  | succ k1 =>
   have H := HA.out
   clear HA
   simp only [attestorlaw09_FoldLinear.l0] at H
   by_cases c28 : x21_1 < ji11
   ·rw [if_pos c28] at H
    have c28b0 := decide_eq_true c28
    clear c28
    obtain ⟨c29, H⟩ : (0 ≤ x21_1) ∧ _ := it_ H
    have c29b0 := decide_eq_true c29
    clear c29
    obtain ⟨c30, H⟩ : (x21_1 < (y311.length : Int)) ∧ _ := it_ H
    have c30b0 := decide_eq_true c30
    clear c30
    revert H
    refine bd_ fun t316 A31 H => ?_
    obtain ⟨c32, H⟩ : (x21_1 < (y313.length : Int)) ∧ _ := it_ H
    have c32b0 := decide_eq_true c32
    clear c32
    revert H
    refine bd_ fun t318 A33 H => ?_
    obtain ⟨c34, H⟩ : (x19_1.length < 17592186044416) ∧ _ := it_ H
    have LMc34 := ak c34
    clear c34
    obtain ⟨y319, hy319⟩ : ∃ y_ : List Int, y_ = (x19_1 ++ [t318]) := ⟨_, rfl⟩
    first | rw [Option.bind_some, ← hy319] at H | rw [← hy319] at H
    have Ny319 := ak hy319
    clear hy319
    have H' := ak H
    clear H
    try go_wp2
    refine nx5_ (Kd.R_drew HO_17.out) (Kd.R_drew HO_18.out) (Kd.R_drew HO_19.out) (blk_drew BK304.out) (below_drew1 HB.out) ?_
    clear HO_17 HO_18 HO_19 BK304 HB
    intro HO_17 HO_18 HO_19 BK304 HB
    have p315 : 0 ≤ (x21_1 : Int) := od_
    have q315 : x21_1 < (y311.length : Int) := od_
    obtain ⟨ad315, e315, hx315_0⟩ := Kd.at_int (Kd.R_reads' HO_17.out).2.2 x21_1 p315 q315
    cases e315
    replace p315 := eq_true p315
    replace q315 := eq_true q315
    have p317 : 0 ≤ (x21_1 : Int) := od_
    have q317 : x21_1 < (y313.length : Int) := od_
    obtain ⟨ad317, e317, hx317_0⟩ := Kd.at_int (Kd.R_reads' HO_18.out).2.2 x21_1 p317 q317
    cases e317
    replace p317 := eq_true p317
    replace q317 := eq_true q317
    refine start_ (n := 19) (S := fun w' => w'.cell? ⟨gb304, 0, none⟩ = some (.int .i64 t301) ∧ w'.cell? ⟨gb304, 1, none⟩ = some (.int .i64 t302) ∧ w'.cell? ⟨gb304, 2, none⟩ = some (.int .u64 t303) ∧ w'.cell? (ad315.add (x21_1).toNat) = some (.int .u64 (rd y311 x21_1)) ∧ w'.cell? (ad317.add (x21_1).toNat) = some (.int .u64 (rd y313 x21_1))) (ds := [16, 17]) (bv 19 0) (by kernel_rfl) rfl rfl ⟨(blk_cell BK304.out 0).trans rfl, (blk_cell BK304.out 1).trans rfl, (blk_cell BK304.out 2).trans rfl, hx315_0, hx317_0⟩ (fun hHeld => ?_); refine with_tabW attestorlaw09_FoldLinear.tab10 attestorlaw09_FoldLinear.bits10 (fun HT_ HW_ => ?_)
    generalize wr.drew = w35 at HO_17 HO_18 HO_19 BK304 HB hx315_0 hx317_0 hHeld ⊢
    refine pr_ (i := 0) (N := some 52) (v := ?_) (a' := ?_) (bv 19 1) HT_.out ?_ ?_ ?_; rotate_left 2; (intro w'; go_simp; with_reducible rfl); (simp only [Act.put, s1_, s2_, s3_, i64_w, i32_w]; rfl)
    refine pr_ (i := 1) (N := some 53) (v := ?_) (a' := ?_) (bv 19 3) HT_.out ?_ ?_ ?_; rotate_left 2; (intro w'; go_simp; with_reducible rfl); (simp only [Act.put, s1_, s2_, s3_, i64_w, i32_w]; rfl)
    refine pr_ (i := 3) (N := some 55) (v := ?_) (a' := ?_) (bv 19 11) HT_.out ?_ ?_ ?_; rotate_left 2; (intro w'; go_simp; with_reducible rfl); (simp only [Act.put, s1_, s2_, s3_, i64_w, i32_w]; rfl)
    refine pr_ (i := 5) (N := some 57) (v := ?_) (a' := ?_) (bv 19 43) HT_.out ?_ ?_ ?_; rotate_left 2; (intro w'; go_simp; with_reducible rfl); (simp only [Act.put, s1_, s2_, s3_, i64_w, i32_w]; rfl)
    refine pr_ (i := 6) (N := some 58) (v := ?_) (a' := ?_) (bv 19 107) HT_.out ?_ ?_ ?_; rotate_left 2; (intro w'; go_simp; with_reducible rfl); (simp only [Act.put, s1_, s2_, s3_, i64_w, i32_w]; rfl)
    refine pr_ (i := 7) (N := some 59) (v := ?_) (a' := ?_) (bv 19 235) HT_.out ?_ ?_ ?_; rotate_left 2; (intro w'; go_simp; with_reducible rfl); (simp only [Act.put, s1_, s2_, s3_, i64_w, i32_w]; rfl)
    refine pr_ (i := 9) (N := some 61) (v := ?_) (a' := ?_) (bv 19 747) HT_.out ?_ ?_ ?_; rotate_left 2; (intro w'; go_simp; with_reducible rfl); (simp only [Act.put, s1_, s2_, s3_, i64_w, i32_w]; rfl)
    refine pr_ (i := 11) (N := some 63) (v := ?_) (a' := ?_) (bv 19 2795) HT_.out ?_ ?_ ?_; rotate_left 2; (intro w'; go_simp; with_reducible rfl); (simp only [Act.put, s1_, s2_, s3_, i64_w, i32_w]; rfl)
    refine pr_ (i := 12) (N := some 64) (v := ?_) (a' := ?_) (bv 19 6891) HT_.out ?_ ?_ ?_; rotate_left 2; (intro w'; go_simp; with_reducible rfl); (simp only [Act.put, s1_, s2_, s3_, i64_w, i32_w]; rfl)
    refine pr_ (i := 13) (N := some 65) (v := ?_) (a' := ?_) (bv 19 15083) HT_.out ?_ ?_ ?_; rotate_left 2; (intro w'; go_simp; with_reducible rfl); (simp only [Act.put, s1_, s2_, s3_, i64_w, i32_w]; rfl)
    refine take_ (i := 2) (N := some 54) (v := ?_) (a' := ?_) (bv 19 15087) rfl rfl (take_ofW HT_.out HW_.out (by kernel_rfl)) (fun _ _ _ h => h) (Or.inl ⟨by rfl, ?_⟩) hHeld ?_ ?_
    rotate_left
    ·rintro w' ⟨s0, s1, s2, s3, s4⟩
     go_simp
     with_reducible rfl
    rotate_left
    ·simp only [Act.put, s1_, s2_, s3_, i64_w, i32_w]
     rfl
    refine take_ (i := 4) (N := some 56) (v := ?_) (a' := ?_) (bv 19 15103) rfl rfl (take_ofW HT_.out HW_.out (by kernel_rfl)) (fun _ _ _ h => h) (Or.inl ⟨by rfl, ?_⟩) hHeld ?_ ?_
    rotate_left
    ·rintro w' ⟨s0, s1, s2, s3, s4⟩
     go_simp
     with_reducible rfl
    rotate_left
    ·simp only [Act.put, s1_, s2_, s3_, i64_w, i32_w]
     rfl
    refine take_ (i := 8) (N := some 60) (v := ?_) (a' := ?_) (bv 19 15359) rfl rfl (take_ofW HT_.out HW_.out (by kernel_rfl)) (fun _ _ _ h => h) (Or.inl ⟨by rfl, ?_⟩) hHeld ?_ ?_
    rotate_left
    ·rintro w' ⟨s0, s1, s2, s3, s4⟩
     go_simp
     with_reducible rfl
    rotate_left
    ·simp only [Act.put, s1_, s2_, s3_, i64_w, i32_w]
     rfl
    refine take_ (i := 14) (N := some 66) (v := ?_) (a' := ?_) (bv 19 31743) rfl rfl (take_ofW HT_.out HW_.out (by kernel_rfl)) (fun _ _ _ h => h) (Or.inl ⟨by rfl, ?_⟩) hHeld ?_ ?_
    rotate_left
    ·rintro w' ⟨s0, s1, s2, s3, s4⟩
     go_simp
     with_reducible rfl
    rotate_left
    ·simp only [Act.put, s1_, s2_, s3_, i64_w, i32_w]
     rfl
    refine one_ (i := 10) (N := some 62) (bv 19 32767) rfl rfl (one_of HT_.out (by kernel_rfl)) (by decide) (fun K hK => ?_)
    refine goes_ Tryd.func19 (by kernel_rfl) rfl #[.int .i64 t301, .int .u64 (rd y311 x21_1), .int .u64 a5] (by rfl) rfl rfl ga_ ?_
    with_reducible refine (field_Mul.calls t301 (rd y311 x21_1) a5 t316 _ ?side1 A31.out).mono ?_
    (case side1 => repeat (first | with_reducible exact HG.out | with_reducible exact (Fld.below HG.out HB.out) | exact (Fld.below HG.out (by repeat (first | (with_reducible first | exact HB.out | apply below_alloc | apply pw_below_drewN | apply below_drew1 | refine below_set ?_ GE304.out) | exact HB.out))) | (with_reducible refine Fld.alloc ?_ _) | (with_reducible refine Fld.drewN ?_ _) | (with_reducible refine Fld.drew ?_)))
    rintro e w36 ⟨rfl, hb⟩
    have HS3_ := (hb.cell (World.block_lt_of_cell? _ _ (hHeld.2.2.2.1))).trans (hHeld.2.2.2.1)
    have HS4_ := (hb.cell (World.block_lt_of_cell? _ _ (hHeld.2.2.2.2))).trans (hHeld.2.2.2.2)
    refine ⟨_, rfl, ?_⟩
    refine nx5_ (Kd.R_below (rU_ HO_17.out) hb) (Kd.R_below (rU_ HO_18.out) hb) (Kd.R_below (rU_ HO_19.out) hb) (blk_below (g := gb304) (o := .cells #[.int .i64 t301, .int .i64 t302, .int .u64 t303] 24 (0, 0)) (by (with_reducible repeat (first | refine blk_drewN ?_ _ | refine blk_drew ?_ | refine blk_alloc ?_ _)); exact BK304.out) hb) (below_step (by repeat (first | (with_reducible first | exact HB.out | apply below_alloc | apply pw_below_drewN | apply below_drew1 | refine below_set ?_ GE304.out) | exact HB.out)) hb) ?_
    clear HO_17 HO_18 HO_19 BK304 HB
    intro HO_17 HO_18 HO_19 BK304 HB
    (try clear hb)
    (try clear hb2)
    (try clear hk)
    (try clear hi)
    refine hK.out _ _ ⟨(blk_cell BK304.out 0).trans rfl, (blk_cell BK304.out 1).trans rfl, (blk_cell BK304.out 2).trans rfl, HS3_, HS4_⟩ (fun hHeld => ?_)
    clear hK K
    refine norm_ (a' := ?_) ?_ ?_
    rotate_left
    ·show Act.put _ (some 62) _ = _
     simp only [Act.put, s1_, s2_, s3_, i64_w, i32_w]
     rfl
    refine one_ (i := 15) (N := some 67) (bv 19 65535) rfl rfl (one_of HT_.out (by kernel_rfl)) (by decide) (fun K hK => ?_)
    refine goes_ Tryd.func18 (by kernel_rfl) rfl #[.int .i64 t301, .int .u64 t316, .int .u64 (rd y313 x21_1)] (by rfl) rfl rfl ga_ ?_
    with_reducible refine (field_Add.calls t301 t316 (rd y313 x21_1) t318 _ ?side1 A33.out).mono ?_
    (case side1 => repeat (first | with_reducible exact HG.out | with_reducible exact (Fld.below HG.out HB.out) | exact (Fld.below HG.out (by repeat (first | (with_reducible first | exact HB.out | apply below_alloc | apply pw_below_drewN | apply below_drew1 | refine below_set ?_ GE304.out) | exact HB.out))) | (with_reducible refine Fld.alloc ?_ _) | (with_reducible refine Fld.drewN ?_ _) | (with_reducible refine Fld.drew ?_)))
    rintro e w37 ⟨rfl, hb⟩
    have HS3_ := (hb.cell (World.block_lt_of_cell? _ _ (hHeld.2.2.2.1))).trans (hHeld.2.2.2.1)
    have HS4_ := (hb.cell (World.block_lt_of_cell? _ _ (hHeld.2.2.2.2))).trans (hHeld.2.2.2.2)
    refine ⟨_, rfl, ?_⟩
    refine nx5_ (Kd.R_below (rU_ HO_17.out) hb) (Kd.R_below (rU_ HO_18.out) hb) (Kd.R_below (rU_ HO_19.out) hb) (blk_below (g := gb304) (o := .cells #[.int .i64 t301, .int .i64 t302, .int .u64 t303] 24 (0, 0)) (by (with_reducible repeat (first | refine blk_drewN ?_ _ | refine blk_drew ?_ | refine blk_alloc ?_ _)); exact BK304.out) hb) (below_step (by repeat (first | (with_reducible first | exact HB.out | apply below_alloc | apply pw_below_drewN | apply below_drew1 | refine below_set ?_ GE304.out) | exact HB.out)) hb) ?_
    clear HO_17 HO_18 HO_19 BK304 HB
    intro HO_17 HO_18 HO_19 BK304 HB
    (try clear hb)
    (try clear hb2)
    (try clear hk)
    (try clear hi)
    refine hK.out _ _ ⟨(blk_cell BK304.out 0).trans rfl, (blk_cell BK304.out 1).trans rfl, (blk_cell BK304.out 2).trans rfl, HS3_, HS4_⟩ (fun hHeld => ?_)
    clear hK K
    refine norm_ (a' := ?_) ?_ ?_
    rotate_left
    ·show Act.put _ (some 67) _ = _
     simp only [Act.put, s1_, s2_, s3_, i64_w, i32_w]
     rfl
    refine last_ (i := 16) (N := some 68) #[true, true, true, true, true, true, true, true, true, true, true, true, true, true, true, true, true, false, false] rfl rfl (one_of HT_.out (by kernel_rfl)) (by decide) (fun K hK => ?_)
    refine value_ (w1 := ?_) (v := ?_) (by rfl) rfl ?_ ?_
    rotate_left 2
    ·go_simp
     constructor
     ·rfl
     ·rfl
    refine hK.out _ _ ?_
    clear hK K
    refine norm_ (a' := ?_) ?_ ?_
    rotate_left
    ·show Act.put _ (some 68) _ = _
     simp only [Act.put, s1_, s2_, s3_, i64_w, i32_w]
     rfl
    refine last_ (i := 17) (N := some 69) #[true, true, true, true, true, true, true, true, true, true, true, true, true, true, true, true, true, true, false] rfl rfl (one_of HT_.out (by kernel_rfl)) (by decide) (fun K hK => ?_)
    refine Kd.R_append_step (Kd.int .u64) (w0 := w) w.heap.size (by rfl) (.tmp 52) (.tmp 68) 33 22 (.int .u64 0) 8 rfl Tryd.underlying33 info22 rfl (by decide) (by omega) u19 x19_1 t318 [.int .u64 t318] (fun k_ => some k_ ≠ (.slice (some ad315) y311.length co25 : Value).ownBlock ∧ some k_ ≠ (.slice (some ad317) y313.length co27 : Value).ownBlock) (fun _ => False) rfl rfl ?aP (fun _ hk => hk.elim) ?aF ?aO ?aB ?aS ?aL ?_
    (case aP => exact rfl)
    (case aB => exact (by repeat (first | (with_reducible first | exact HB.out | apply below_alloc | apply pw_below_drewN | apply below_drew1 | refine below_set ?_ GE304.out) | exact HB.out)))
    (case aF => exact (fun k_ hk => ⟨Kd.fresh' (Kd.R_lt (rU_ HO_17.out)) k_ hk, Kd.fresh' (Kd.R_lt (rU_ HO_18.out)) k_ hk⟩))
    (case aO => exact (rU_ HO_19.out))
    (case aS => exact (below_size (by repeat (first | (with_reducible first | exact HB.out | apply below_alloc | apply pw_below_drewN | apply below_drew1 | refine below_set ?_ GE304.out) | exact HB.out))))
    (case aL => have := LMc34.out; omega)
    intro v320 w38 ho hb hg hat
    rw [← Ny319.out] at ho
    refine nx5_ (Kd.R_after (ok := (fun k_ => some k_ ≠ (.slice (some ad317) y313.length co27 : Value).ownBlock)) (rU_ HO_17.out) hg hat) (Kd.R_after (ok := (fun k_ => some k_ ≠ (.slice (some ad315) y311.length co25 : Value).ownBlock)) (rU_ HO_18.out) hg hat) (blk_grown (g := gb304) (o := .cells #[.int .i64 t301, .int .i64 t302, .int .u64 t303] 24 (0, 0)) (by (with_reducible repeat (first | refine blk_drewN ?_ _ | refine blk_drew ?_ | refine blk_alloc ?_ _)); exact BK304.out) hg (Kd.R_ne HO_19.out BK304.out (by decide))) (hb) (ho) ?_
    clear HO_17 HO_18 BK304 HB HO_19
    intro HO_17 HO_18 BK304 HB HO321
    clear ho hb hg hat
    refine hK.out _ _ ?_
    clear hK K
    refine norm_ (a' := ?_) ?_ ?_
    rotate_left
    ·show Act.put _ (some 69) _ = _
     simp only [Act.put, s1_, s2_, s3_, i64_w, i32_w]
     rfl
    refine pr_ (i := 18) (N := some 19) (v := ?_) (a' := ?_) (bv 19 524287) HT_.out ?_ ?_ ?_; rotate_left 2; (intro w'; go_simp; with_reducible rfl); (simp only [Act.put, s1_, s2_, s3_, i64_w, i32_w]; rfl)
    refine done_ (done_of HT_.out (by kernel_rfl)) ?_
    try go_wp2
    (try simp only [← hl17_1, ← hl18_1])
    go_roundg k1
    case measure => have := HK1.out; omega
    case rel => exact ⟨(y319), (wrap64 (x21_1 + 1)), gb_, H', ⟨by have := HK1.out; omega⟩, ⟨by (try simp only [hl17_1]); (try simp only [hl18_1]); (with_reducible repeat (first | apply Kd.R_alloc | apply Kd.R_drewN | apply Kd.R_drew)); exact HO_17.out⟩, ⟨by (try simp only [hl17_1]); (try simp only [hl18_1]); (with_reducible repeat (first | apply Kd.R_alloc | apply Kd.R_drewN | apply Kd.R_drew)); exact HO_18.out⟩, ⟨by (try simp only [hl17_1]); (try simp only [hl18_1]); (with_reducible repeat (first | apply Kd.R_alloc | apply Kd.R_drewN | apply Kd.R_drew)); exact HO321.out⟩, ⟨by (try simp only [hl17_1]); (try simp only [hl18_1]); (with_reducible repeat (first | refine blk_drewN ?_ _ | refine blk_drew ?_ | refine blk_alloc ?_ _)); exact BK304.out⟩, ⟨by repeat (first | (with_reducible first | exact HB.out | apply below_alloc | apply pw_below_drewN | apply below_drew1 | refine below_set ?_ GE304.out) | exact HB.out)⟩⟩
   ·rw [if_neg c28] at H
    have c28b0 := decide_eq_false c28
    clear c28
    revert H
    refine bd2_ fun t322 t325 A39 H => ?_
    try dsimp only at H
    revert H
    refine bd2_ fun t326 t329 A40 H => ?_
    try dsimp only at H
    revert H
    refine bd2_ fun t330 t333 A41 H => ?_
    try dsimp only at H
    obtain ⟨c42, H⟩ : (t325 = 0) ∧ _ := it_ H
    have c42b0 := beq_iff_eq.mpr c42
    have c42b1 := bne_eq_false_iff_eq.mpr c42
    clear c42
    obtain ⟨c43, H⟩ : (t329 = 0) ∧ _ := it_ H
    have c43b0 := beq_iff_eq.mpr c43
    have c43b1 := bne_eq_false_iff_eq.mpr c43
    clear c43
    obtain ⟨c44, H⟩ : (t333 = 0) ∧ _ := it_ H
    have c44b0 := beq_iff_eq.mpr c44
    have c44b1 := bne_eq_false_iff_eq.mpr c44
    clear c44
    obtain ⟨c45, H⟩ : ((t322.length : Int) = (wrap64 (Int.tdiv ji11 8))) ∧ _ := it_ H
    have c45b0 := beq_iff_eq.mpr c45
    have c45b1 := bne_eq_false_iff_eq.mpr c45
    clear c45
    have HC46 := ak H
    clear H
    have hcz47_0 : wr.cell? ⟨gb304, 0, none⟩ = some (.int .i64 t301) := (blk_cell BK304.out 0).trans rfl
    have hcz47_1 : wr.cell? ⟨gb304, 1, none⟩ = some (.int .i64 t302) := (blk_cell BK304.out 1).trans rfl
    have hcz47_2 : wr.cell? ⟨gb304, 2, none⟩ = some (.int .u64 t303) := (blk_cell BK304.out 2).trans rfl
    have hfz47_0 := blk_frozen BK304.out 0
    have hfz47_1 := blk_frozen BK304.out 1
    have hfz47_2 := blk_frozen BK304.out 2
    go_upto_if 114 with (first | ((with_reducible refine gate_callee (f := 20) rfl ?_); refine gl_ (some 74) Tryd.func20 #[.agg #[.int .i64 t301, .int .i64 t302, .int .u64 t303], .slice Ao25 y311.length co25, .int .u64 a6] ?_; (with_reducible refine (fold_Word.calls k1 t301 t302 t303 _ _ y311 a6 t322 t325 _ ?side1 ?side2 ?side3 A39.out).mono ?_); (case side1 => repeat (first | with_reducible exact HG.out | with_reducible exact (Fld.below HG.out HB.out) | exact (Fld.below HG.out (by repeat (first | (with_reducible first | exact HB.out | apply below_alloc | apply pw_below_drewN | apply below_drew1 | refine below_set ?_ GE304.out) | exact HB.out))) | (with_reducible refine Fld.alloc ?_ _) | (with_reducible refine Fld.drewN ?_ _) | (with_reducible refine Fld.drew ?_))); (case side2 => exact cU_ ((Kd.R_reads' HO_17.out).2.2)); (case side3 => exact (Kd.R_reads' HO_17.out).2.1); rintro e w48 ⟨v323, rfl, ho0, hb⟩; refine ⟨_, rfl, ?_⟩; refine nx6_ (Kd.R_elder' (rU_ HO_17.out) (Kd.R_base ho0) hb) (Kd.R_elder' (rU_ HO_18.out) (Kd.R_base ho0) hb) (Kd.R_elder' (rU_ HO_19.out) (Kd.R_base ho0) hb) (Kd.R_lower (Kd.R_new' (Kd.R_new' (Kd.R_new' ho0 (Kd.R_lt (rU_ HO_17.out))) (Kd.R_lt (rU_ HO_18.out))) (Kd.R_lt (rU_ HO_19.out))) (below_size (by repeat (first | (with_reducible first | exact HB.out | apply below_alloc | apply pw_below_drewN | apply below_drew1 | refine below_set ?_ GE304.out) | exact HB.out)))) (blk_below (g := gb304) (o := .cells #[.int .i64 t301, .int .i64 t302, .int .u64 t303] 24 (0, 0)) (by (with_reducible repeat (first | refine blk_drewN ?_ _ | refine blk_drew ?_ | refine blk_alloc ?_ _)); exact BK304.out) hb) (below_step (by repeat (first | (with_reducible first | exact HB.out | apply below_alloc | apply pw_below_drewN | apply below_drew1 | refine below_set ?_ GE304.out) | exact HB.out)) hb) ?_; clear HO_17 HO_18 HO_19 BK304 HB; intro HO_17 HO_18 HO_19 HO324 BK304 HB; clear hb ho0; have hcz49_0 : w48.cell? ⟨gb304, 0, none⟩ = some (.int .i64 t301) := (blk_cell BK304.out 0).trans rfl; have hcz49_1 : w48.cell? ⟨gb304, 1, none⟩ = some (.int .i64 t302) := (blk_cell BK304.out 1).trans rfl; have hcz49_2 : w48.cell? ⟨gb304, 2, none⟩ = some (.int .u64 t303) := (blk_cell BK304.out 2).trans rfl; have hfz49_0 := blk_frozen BK304.out 0; have hfz49_1 := blk_frozen BK304.out 1; have hfz49_2 := blk_frozen BK304.out 2) | ((with_reducible refine gate_callee (f := 20) rfl ?_); refine gl_ (some 81) Tryd.func20 #[.agg #[.int .i64 t301, .int .i64 t302, .int .u64 t303], .slice Ao27 y313.length co27, .int .u64 a6] ?_; (with_reducible refine (fold_Word.calls k1 t301 t302 t303 _ _ y313 a6 t326 t329 _ ?side1 ?side2 ?side3 A40.out).mono ?_); (case side1 => repeat (first | with_reducible exact HG.out | with_reducible exact (Fld.below HG.out HB.out) | exact (Fld.below HG.out (by repeat (first | (with_reducible first | exact HB.out | apply below_alloc | apply pw_below_drewN | apply below_drew1 | refine below_set ?_ GE304.out) | exact HB.out))) | (with_reducible refine Fld.alloc ?_ _) | (with_reducible refine Fld.drewN ?_ _) | (with_reducible refine Fld.drew ?_))); (case side2 => exact cU_ ((Kd.R_reads' HO_18.out).2.2)); (case side3 => exact (Kd.R_reads' HO_18.out).2.1); rintro e w50 ⟨v327, rfl, ho0, hb⟩; refine ⟨_, rfl, ?_⟩; refine nx7_ (Kd.R_elder' (rU_ HO_17.out) (Kd.R_base ho0) hb) (Kd.R_elder' (rU_ HO_18.out) (Kd.R_base ho0) hb) (Kd.R_elder' (rU_ HO_19.out) (Kd.R_base ho0) hb) (Kd.R_elder' (rU_ HO324.out) (Kd.R_base ho0) hb) (Kd.R_lower (Kd.R_new' (Kd.R_new' (Kd.R_new' (Kd.R_new' ho0 (Kd.R_lt (rU_ HO_17.out))) (Kd.R_lt (rU_ HO_18.out))) (Kd.R_lt (rU_ HO_19.out))) (Kd.R_lt (rU_ HO324.out))) (below_size (by repeat (first | (with_reducible first | exact HB.out | apply below_alloc | apply pw_below_drewN | apply below_drew1 | refine below_set ?_ GE304.out) | exact HB.out)))) (blk_below (g := gb304) (o := .cells #[.int .i64 t301, .int .i64 t302, .int .u64 t303] 24 (0, 0)) (by (with_reducible repeat (first | refine blk_drewN ?_ _ | refine blk_drew ?_ | refine blk_alloc ?_ _)); exact BK304.out) hb) (below_step (by repeat (first | (with_reducible first | exact HB.out | apply below_alloc | apply pw_below_drewN | apply below_drew1 | refine below_set ?_ GE304.out) | exact HB.out)) hb) ?_; clear HO_17 HO_18 HO_19 HO324 BK304 HB; intro HO_17 HO_18 HO_19 HO324 HO328 BK304 HB; clear hb ho0; have hcz51_0 : w50.cell? ⟨gb304, 0, none⟩ = some (.int .i64 t301) := (blk_cell BK304.out 0).trans rfl; have hcz51_1 : w50.cell? ⟨gb304, 1, none⟩ = some (.int .i64 t302) := (blk_cell BK304.out 1).trans rfl; have hcz51_2 : w50.cell? ⟨gb304, 2, none⟩ = some (.int .u64 t303) := (blk_cell BK304.out 2).trans rfl; have hfz51_0 := blk_frozen BK304.out 0; have hfz51_1 := blk_frozen BK304.out 1; have hfz51_2 := blk_frozen BK304.out 2; obtain ⟨Ao52, co52, eo52⟩ := Kd.R_slice HO_19.out; subst eo52) | ((with_reducible refine gate_callee (f := 20) rfl ?_); refine gl_ (some 88) Tryd.func20 #[.agg #[.int .i64 t301, .int .i64 t302, .int .u64 t303], .slice Ao52 x19_1.length co52, .int .u64 a6] ?_; (with_reducible refine (fold_Word.calls k1 t301 t302 t303 _ _ x19_1 a6 t330 t333 _ ?side1 ?side2 ?side3 A41.out).mono ?_); (case side1 => repeat (first | with_reducible exact HG.out | with_reducible exact (Fld.below HG.out HB.out) | exact (Fld.below HG.out (by repeat (first | (with_reducible first | exact HB.out | apply below_alloc | apply pw_below_drewN | apply below_drew1 | refine below_set ?_ GE304.out) | exact HB.out))) | (with_reducible refine Fld.alloc ?_ _) | (with_reducible refine Fld.drewN ?_ _) | (with_reducible refine Fld.drew ?_))); (case side2 => exact cU_ ((Kd.R_reads' HO_19.out).2.2)); (case side3 => exact (Kd.R_reads' HO_19.out).2.1); rintro e w53 ⟨v331, rfl, ho0, hb⟩; refine ⟨_, rfl, ?_⟩; refine nx8_ (Kd.R_elder' (rU_ HO_17.out) (Kd.R_base ho0) hb) (Kd.R_elder' (rU_ HO_18.out) (Kd.R_base ho0) hb) (Kd.R_elder' (rU_ HO_19.out) (Kd.R_base ho0) hb) (Kd.R_elder' (rU_ HO324.out) (Kd.R_base ho0) hb) (Kd.R_elder' (rU_ HO328.out) (Kd.R_base ho0) hb) (Kd.R_lower (Kd.R_new' (Kd.R_new' (Kd.R_new' (Kd.R_new' (Kd.R_new' ho0 (Kd.R_lt (rU_ HO_17.out))) (Kd.R_lt (rU_ HO_18.out))) (Kd.R_lt (rU_ HO_19.out))) (Kd.R_lt (rU_ HO324.out))) (Kd.R_lt (rU_ HO328.out))) (below_size (by repeat (first | (with_reducible first | exact HB.out | apply below_alloc | apply pw_below_drewN | apply below_drew1 | refine below_set ?_ GE304.out) | exact HB.out)))) (blk_below (g := gb304) (o := .cells #[.int .i64 t301, .int .i64 t302, .int .u64 t303] 24 (0, 0)) (by (with_reducible repeat (first | refine blk_drewN ?_ _ | refine blk_drew ?_ | refine blk_alloc ?_ _)); exact BK304.out) hb) (below_step (by repeat (first | (with_reducible first | exact HB.out | apply below_alloc | apply pw_below_drewN | apply below_drew1 | refine below_set ?_ GE304.out) | exact HB.out)) hb) ?_; clear HO_17 HO_18 HO_19 HO324 HO328 BK304 HB; intro HO_17 HO_18 HO_19 HO324 HO328 HO332 BK304 HB; clear hb ho0; obtain ⟨Ao54, co54, eo54⟩ := Kd.R_slice HO324.out; subst eo54; obtain ⟨Ao55, co55, eo55⟩ := Kd.R_slice HO328.out; subst eo55))
    (try simp only [Act.put, s1_, s2_, s3_])
    go_cut [] (fun wc => ∃ (kq : Nat), Aside0 (attestorlaw09_FoldLinear.j1 kq a5 ji11 ([] : List Int) t322 t326 t330 t301 t302 t303 = some r) ∧ Aside0 (kq ≤ k1) ∧ Aside0 (Kd.R (Kd.int .u64) 22 wc w.heap.size (fun k_ => some k_ ≠ ((.slice Ao54 t322.length co54) : Value).ownBlock ∧ some k_ ≠ ((.slice Ao55 t326.length co55) : Value).ownBlock ∧ some k_ ≠ (v331 : Value).ownBlock) (.slice none 0 0) ([] : List Int)) ∧ Aside0 (Kd.R (Kd.int .u64) 22 wc w.heap.size (fun k_ => some k_ ≠ ((.slice none 0 0) : Value).ownBlock ∧ some k_ ≠ ((.slice Ao55 t326.length co55) : Value).ownBlock ∧ some k_ ≠ (v331 : Value).ownBlock) (.slice Ao54 t322.length co54) t322) ∧ Aside0 (Kd.R (Kd.int .u64) 22 wc w.heap.size (fun k_ => some k_ ≠ ((.slice none 0 0) : Value).ownBlock ∧ some k_ ≠ ((.slice Ao54 t322.length co54) : Value).ownBlock ∧ some k_ ≠ (v331 : Value).ownBlock) (.slice Ao55 t326.length co55) t326) ∧ Aside0 (Kd.R (Kd.int .u64) 22 wc w.heap.size (fun k_ => some k_ ≠ ((.slice none 0 0) : Value).ownBlock ∧ some k_ ≠ ((.slice Ao54 t322.length co54) : Value).ownBlock ∧ some k_ ≠ ((.slice Ao55 t326.length co55) : Value).ownBlock) v331 t330) ∧ Aside0 (wc.heap[gb304]? = some (.cells #[.int .i64 t301, .int .i64 t302, .int .u64 t303] 24 (0, 0))) ∧ Aside0 (Below w.heap.size w wc))
    case first =>
     have H := HC46.out
     clear HC46
     obtain ⟨c56, H⟩ : ((t326.length : Int) = (wrap64 (Int.tdiv ji11 8))) ∧ _ := it_ H
     have c56b0 := beq_iff_eq.mpr c56
     have c56b1 := bne_eq_false_iff_eq.mpr c56
     clear c56
     (first | rw [c56b0] | (simp only [i64_w, i32_w]; rw [c56b0]) | rw [c56b1] | skip)
     have H' := ak H
     clear H
     go_wp2
     go_meet
     case rel => exact ⟨_, H', ⟨by have := HK1.out; first | omega | exact Nat.le_refl _⟩, ⟨by (try simp only [hl17_1]); (try simp only [hl18_1]); first | exact Kd.R_nil _ _ _ _ _ | exact Kd.N_nil _ _ _ _ _ | exact Kd.V_nil _ _ _ _ _ | exact Kd.Q_nil _ _ _ _ _ | exact Kd.S_nil _ _ _ _ _⟩, ⟨by (try simp only [hl17_1]); (try simp only [hl18_1]); (with_reducible repeat (first | apply Kd.R_alloc | apply Kd.R_drewN | apply Kd.R_drew)); exact Kd.R_mono HO324.out (fun _ hk => ⟨(by simp [Value.ownBlock]), ⟨hk.1.2, hk.2⟩⟩)⟩, ⟨by (try simp only [hl17_1]); (try simp only [hl18_1]); (with_reducible repeat (first | apply Kd.R_alloc | apply Kd.R_drewN | apply Kd.R_drew)); exact Kd.R_mono HO328.out (fun _ hk => ⟨(by simp [Value.ownBlock]), ⟨hk.1.2, hk.2⟩⟩)⟩, ⟨by (try simp only [hl17_1]); (try simp only [hl18_1]); (with_reducible repeat (first | apply Kd.R_alloc | apply Kd.R_drewN | apply Kd.R_drew)); exact Kd.R_mono HO332.out (fun _ hk => ⟨(by simp [Value.ownBlock]), ⟨hk.1.2, hk.2⟩⟩)⟩, ⟨by (try simp only [hl17_1]); (try simp only [hl18_1]); (with_reducible repeat (first | refine blk_drewN ?_ _ | refine blk_drew ?_ | refine blk_alloc ?_ _)); exact BK304.out⟩, ⟨by repeat (first | (with_reducible first | exact HB.out | apply below_alloc | apply pw_below_drewN | apply below_drew1 | refine below_set ?_ GE304.out) | exact HB.out)⟩⟩
    case rest =>
     clear HC46
     (try clear c1); (try clear c2); (try clear p2); (try clear c3); (try clear p3); (try clear q3); (try clear hx3); (try clear c4); (try clear c5); (try clear p6); (try clear c10); (try clear c10b0); (try clear c10b1); (try clear c12); (try clear c12b0); (try clear c12b1); (try clear c13); (try clear c13b0); (try clear c13b1); (try clear c17); (try clear c18); (try clear c19); (try clear c20); (try clear c28); (try clear c28b0); (try clear c29); (try clear c29b0); (try clear c30); (try clear c30b0); (try clear p31); (try clear q31); (try clear hx31); (try clear c32); (try clear c32b0); (try clear c34); (try clear c42); (try clear c42b0); (try clear c42b1); (try clear c43); (try clear c43b0); (try clear c43b1); (try clear c44); (try clear c44b0); (try clear c44b1); (try clear c45); (try clear c45b0); (try clear c45b1); (try clear c56); (try clear c56b0); (try clear c56b1); (try clear hcz16_0); (try clear hcz16_1); (try clear hcz16_2); (try clear hcz47_0); (try clear hcz47_1); (try clear hcz47_2); (try clear hcz49_0); (try clear hcz49_1); (try clear hcz49_2); (try clear hcz51_0); (try clear hcz51_1); (try clear hcz51_2); (try clear hfz16_0); (try clear hfz16_1); (try clear hfz16_2); (try clear hfz47_0); (try clear hfz47_1); (try clear hfz47_2); (try clear hfz49_0); (try clear hfz49_1); (try clear hfz49_2); (try clear hfz51_0); (try clear hfz51_1); (try clear hfz51_2); (try clear hx315_0); (try clear hx317_0); (try clear p315); (try clear p317); (try clear q315); (try clear q317)
     obtain ⟨kq, HA, HJ45, HO_20, HO_22, HO_24, HO_26, BK304, HB⟩ := hcut
     cases kq with
     | zero => exact absurd HA.out (by simp [attestorlaw09_FoldLinear.j1])
     | succ kj45 =>
      have H := HA.out
      clear HA
      simp only [attestorlaw09_FoldLinear.j1] at H
      have H' := ak H
      clear H
      go_wp2
      go_loopg [20, 28] kj45 (fun kq v20 v28 w' => ∃ (x20_3 : List Int) (x28_3 : Int), v28 = .int .i64 x28_3 ∧ Aside0 (attestorlaw09_FoldLinear.l1 kq a5 ji11 x20_3 t322 t326 t330 x28_3 t301 t302 t303 = some r) ∧ Aside0 (kq ≤ kj45) ∧ Aside0 (Kd.R (Kd.int .u64) 22 w' w.heap.size (fun k_ => some k_ ≠ ((.slice Ao54 t322.length co54) : Value).ownBlock ∧ some k_ ≠ ((.slice Ao55 t326.length co55) : Value).ownBlock ∧ some k_ ≠ (v331 : Value).ownBlock) v20 x20_3) ∧ Aside0 (Kd.R (Kd.int .u64) 22 w' w.heap.size (fun k_ => some k_ ≠ (v20 : Value).ownBlock ∧ some k_ ≠ ((.slice Ao55 t326.length co55) : Value).ownBlock ∧ some k_ ≠ (v331 : Value).ownBlock) (.slice Ao54 t322.length co54) t322) ∧ Aside0 (Kd.R (Kd.int .u64) 22 w' w.heap.size (fun k_ => some k_ ≠ (v20 : Value).ownBlock ∧ some k_ ≠ ((.slice Ao54 t322.length co54) : Value).ownBlock ∧ some k_ ≠ (v331 : Value).ownBlock) (.slice Ao55 t326.length co55) t326) ∧ Aside0 (Kd.R (Kd.int .u64) 22 w' w.heap.size (fun k_ => some k_ ≠ (v20 : Value).ownBlock ∧ some k_ ≠ ((.slice Ao54 t322.length co54) : Value).ownBlock ∧ some k_ ≠ ((.slice Ao55 t326.length co55) : Value).ownBlock) v331 t330) ∧ Aside0 (w'.heap[gb304]? = some (.cells #[.int .i64 t301, .int .i64 t302, .int .u64 t303] 24 (0, 0))) ∧ Aside0 (Below w.heap.size w w'))
      case atStart => exact ⟨(([] : List Int)), (0), gb_, H', ⟨Nat.le_refl _⟩, ⟨by (try simp only [hl17_1]); (try simp only [hl18_1]); (with_reducible repeat (first | apply Kd.R_alloc | apply Kd.R_drewN | apply Kd.R_drew)); exact HO_20.out⟩, ⟨by (try simp only [hl17_1]); (try simp only [hl18_1]); (with_reducible repeat (first | apply Kd.R_alloc | apply Kd.R_drewN | apply Kd.R_drew)); exact HO_22.out⟩, ⟨by (try simp only [hl17_1]); (try simp only [hl18_1]); (with_reducible repeat (first | apply Kd.R_alloc | apply Kd.R_drewN | apply Kd.R_drew)); exact HO_24.out⟩, ⟨by (try simp only [hl17_1]); (try simp only [hl18_1]); (with_reducible repeat (first | apply Kd.R_alloc | apply Kd.R_drewN | apply Kd.R_drew)); exact HO_26.out⟩, ⟨by (try simp only [hl17_1]); (try simp only [hl18_1]); (with_reducible repeat (first | refine blk_drewN ?_ _ | refine blk_drew ?_ | refine blk_alloc ?_ _)); exact BK304.out⟩, ⟨by repeat (first | (with_reducible first | exact HB.out | apply below_alloc | apply pw_below_drewN | apply below_drew1 | refine below_set ?_ GE304.out) | exact HB.out)⟩⟩
      case round =>
       clear H'
       (try clear c1); (try clear c2); (try clear p2); (try clear c3); (try clear p3); (try clear q3); (try clear hx3); (try clear c4); (try clear c5); (try clear p6); (try clear c10); (try clear c10b0); (try clear c10b1); (try clear c12); (try clear c12b0); (try clear c12b1); (try clear c13); (try clear c13b0); (try clear c13b1); (try clear c17); (try clear c18); (try clear c19); (try clear c20); (try clear c28); (try clear c28b0); (try clear c29); (try clear c29b0); (try clear c30); (try clear c30b0); (try clear p31); (try clear q31); (try clear hx31); (try clear c32); (try clear c32b0); (try clear c34); (try clear c42); (try clear c42b0); (try clear c42b1); (try clear c43); (try clear c43b0); (try clear c43b1); (try clear c44); (try clear c44b0); (try clear c44b1); (try clear c45); (try clear c45b0); (try clear c45b1); (try clear c56); (try clear c56b0); (try clear c56b1); (try clear hcz16_0); (try clear hcz16_1); (try clear hcz16_2); (try clear hcz47_0); (try clear hcz47_1); (try clear hcz47_2); (try clear hcz49_0); (try clear hcz49_1); (try clear hcz49_2); (try clear hcz51_0); (try clear hcz51_1); (try clear hcz51_2); (try clear hfz16_0); (try clear hfz16_1); (try clear hfz16_2); (try clear hfz47_0); (try clear hfz47_1); (try clear hfz47_2); (try clear hfz49_0); (try clear hfz49_1); (try clear hfz49_2); (try clear hfz51_0); (try clear hfz51_1); (try clear hfz51_2); (try clear hx315_0); (try clear hx317_0); (try clear p315); (try clear p317); (try clear q315); (try clear q317)
       obtain ⟨x20_3, x28_3, rfl, HA, HK3, HO_20, HO_22, HO_24, HO_26, BK304, HB⟩ := hrel
       cases gk with
       | zero => exact absurd HA.out (by simp [attestorlaw09_FoldLinear.l1])
       | succ k3 =>
        have H := HA.out
        clear HA
        simp only [attestorlaw09_FoldLinear.l1] at H
        by_cases c57 : x28_3 < (wrap64 (Int.tdiv ji11 8))
        ·rw [if_pos c57] at H
         have c57b0 := decide_eq_true c57
         clear c57
         obtain ⟨c58, H⟩ : (0 ≤ x28_3) ∧ _ := it_ H
         have c58b0 := decide_eq_true c58
         clear c58
         obtain ⟨c59, H⟩ : (x28_3 < (t322.length : Int)) ∧ _ := it_ H
         have c59b0 := decide_eq_true c59
         clear c59
         revert H
         refine bd_ fun t335 A60 H => ?_
         obtain ⟨c61, H⟩ : (x28_3 < (t326.length : Int)) ∧ _ := it_ H
         have c61b0 := decide_eq_true c61
         clear c61
         revert H
         refine bd_ fun t337 A62 H => ?_
         obtain ⟨c63, H⟩ : (x20_3.length < 17592186044416) ∧ _ := it_ H
         have LMc63 := ak c63
         clear c63
         obtain ⟨y338, hy338⟩ : ∃ y_ : List Int, y_ = (x20_3 ++ [t337]) := ⟨_, rfl⟩
         first | rw [Option.bind_some, ← hy338] at H | rw [← hy338] at H
         have Ny338 := ak hy338
         clear hy338
         have H' := ak H
         clear H
         try go_wp2
         refine nx6_ (Kd.R_drew HO_20.out) (Kd.R_drew HO_22.out) (Kd.R_drew HO_24.out) (Kd.R_drew HO_26.out) (blk_drew BK304.out) (below_drew1 HB.out) ?_
         clear HO_20 HO_22 HO_24 HO_26 BK304 HB
         intro HO_20 HO_22 HO_24 HO_26 BK304 HB
         have p334 : 0 ≤ (x28_3 : Int) := od_
         have q334 : x28_3 < (t322.length : Int) := od_
         obtain ⟨ad334, e334, hx334_0⟩ := Kd.at_int (Kd.R_reads' HO_22.out).2.2 x28_3 p334 q334
         cases e334
         replace p334 := eq_true p334
         replace q334 := eq_true q334
         have p336 : 0 ≤ (x28_3 : Int) := od_
         have q336 : x28_3 < (t326.length : Int) := od_
         obtain ⟨ad336, e336, hx336_0⟩ := Kd.at_int (Kd.R_reads' HO_24.out).2.2 x28_3 p336 q336
         cases e336
         replace p336 := eq_true p336
         replace q336 := eq_true q336
         refine start_ (n := 19) (S := fun w' => w'.cell? ⟨gb304, 0, none⟩ = some (.int .i64 t301) ∧ w'.cell? ⟨gb304, 1, none⟩ = some (.int .i64 t302) ∧ w'.cell? ⟨gb304, 2, none⟩ = some (.int .u64 t303) ∧ w'.cell? (ad334.add (x28_3).toNat) = some (.int .u64 (rd t322 x28_3)) ∧ w'.cell? (ad336.add (x28_3).toNat) = some (.int .u64 (rd t326 x28_3))) (ds := [16, 17]) (bv 19 0) (by kernel_rfl) rfl rfl ⟨(blk_cell BK304.out 0).trans rfl, (blk_cell BK304.out 1).trans rfl, (blk_cell BK304.out 2).trans rfl, hx334_0, hx336_0⟩ (fun hHeld => ?_); refine with_tabW attestorlaw09_FoldLinear.tab19 attestorlaw09_FoldLinear.bits19 (fun HT_ HW_ => ?_)
         generalize wr.drew = w64 at HO_20 HO_22 HO_24 HO_26 BK304 HB hx334_0 hx336_0 hHeld ⊢
         refine pr_ (i := 0) (N := some 121) (v := ?_) (a' := ?_) (bv 19 1) HT_.out ?_ ?_ ?_; rotate_left 2; (intro w'; go_simp; with_reducible rfl); (simp only [Act.put, s1_, s2_, s3_, i64_w, i32_w]; rfl)
         refine pr_ (i := 1) (N := some 122) (v := ?_) (a' := ?_) (bv 19 3) HT_.out ?_ ?_ ?_; rotate_left 2; (intro w'; go_simp; with_reducible rfl); (simp only [Act.put, s1_, s2_, s3_, i64_w, i32_w]; rfl)
         refine pr_ (i := 3) (N := some 124) (v := ?_) (a' := ?_) (bv 19 11) HT_.out ?_ ?_ ?_; rotate_left 2; (intro w'; go_simp; with_reducible rfl); (simp only [Act.put, s1_, s2_, s3_, i64_w, i32_w]; rfl)
         refine pr_ (i := 5) (N := some 126) (v := ?_) (a' := ?_) (bv 19 43) HT_.out ?_ ?_ ?_; rotate_left 2; (intro w'; go_simp; with_reducible rfl); (simp only [Act.put, s1_, s2_, s3_, i64_w, i32_w]; rfl)
         refine pr_ (i := 6) (N := some 127) (v := ?_) (a' := ?_) (bv 19 107) HT_.out ?_ ?_ ?_; rotate_left 2; (intro w'; go_simp; with_reducible rfl); (simp only [Act.put, s1_, s2_, s3_, i64_w, i32_w]; rfl)
         refine pr_ (i := 7) (N := some 128) (v := ?_) (a' := ?_) (bv 19 235) HT_.out ?_ ?_ ?_; rotate_left 2; (intro w'; go_simp; with_reducible rfl); (simp only [Act.put, s1_, s2_, s3_, i64_w, i32_w]; rfl)
         refine pr_ (i := 9) (N := some 130) (v := ?_) (a' := ?_) (bv 19 747) HT_.out ?_ ?_ ?_; rotate_left 2; (intro w'; go_simp; with_reducible rfl); (simp only [Act.put, s1_, s2_, s3_, i64_w, i32_w]; rfl)
         refine pr_ (i := 11) (N := some 132) (v := ?_) (a' := ?_) (bv 19 2795) HT_.out ?_ ?_ ?_; rotate_left 2; (intro w'; go_simp; with_reducible rfl); (simp only [Act.put, s1_, s2_, s3_, i64_w, i32_w]; rfl)
         refine pr_ (i := 12) (N := some 133) (v := ?_) (a' := ?_) (bv 19 6891) HT_.out ?_ ?_ ?_; rotate_left 2; (intro w'; go_simp; with_reducible rfl); (simp only [Act.put, s1_, s2_, s3_, i64_w, i32_w]; rfl)
         refine pr_ (i := 13) (N := some 134) (v := ?_) (a' := ?_) (bv 19 15083) HT_.out ?_ ?_ ?_; rotate_left 2; (intro w'; go_simp; with_reducible rfl); (simp only [Act.put, s1_, s2_, s3_, i64_w, i32_w]; rfl)
         refine take_ (i := 2) (N := some 123) (v := ?_) (a' := ?_) (bv 19 15087) rfl rfl (take_ofW HT_.out HW_.out (by kernel_rfl)) (fun _ _ _ h => h) (Or.inl ⟨by rfl, ?_⟩) hHeld ?_ ?_
         rotate_left
         ·rintro w' ⟨s0, s1, s2, s3, s4⟩
          go_simp
          with_reducible rfl
         rotate_left
         ·simp only [Act.put, s1_, s2_, s3_, i64_w, i32_w]
          rfl
         refine take_ (i := 4) (N := some 125) (v := ?_) (a' := ?_) (bv 19 15103) rfl rfl (take_ofW HT_.out HW_.out (by kernel_rfl)) (fun _ _ _ h => h) (Or.inl ⟨by rfl, ?_⟩) hHeld ?_ ?_
         rotate_left
         ·rintro w' ⟨s0, s1, s2, s3, s4⟩
          go_simp
          with_reducible rfl
         rotate_left
         ·simp only [Act.put, s1_, s2_, s3_, i64_w, i32_w]
          rfl
         refine take_ (i := 8) (N := some 129) (v := ?_) (a' := ?_) (bv 19 15359) rfl rfl (take_ofW HT_.out HW_.out (by kernel_rfl)) (fun _ _ _ h => h) (Or.inl ⟨by rfl, ?_⟩) hHeld ?_ ?_
         rotate_left
         ·rintro w' ⟨s0, s1, s2, s3, s4⟩
          go_simp
          with_reducible rfl
         rotate_left
         ·simp only [Act.put, s1_, s2_, s3_, i64_w, i32_w]
          rfl
         refine take_ (i := 14) (N := some 135) (v := ?_) (a' := ?_) (bv 19 31743) rfl rfl (take_ofW HT_.out HW_.out (by kernel_rfl)) (fun _ _ _ h => h) (Or.inl ⟨by rfl, ?_⟩) hHeld ?_ ?_
         rotate_left
         ·rintro w' ⟨s0, s1, s2, s3, s4⟩
          go_simp
          with_reducible rfl
         rotate_left
         ·simp only [Act.put, s1_, s2_, s3_, i64_w, i32_w]
          rfl
         refine one_ (i := 10) (N := some 131) (bv 19 32767) rfl rfl (one_of HT_.out (by kernel_rfl)) (by decide) (fun K hK => ?_)
         refine goes_ Tryd.func19 (by kernel_rfl) rfl #[.int .i64 t301, .int .u64 (rd t322 x28_3), .int .u64 a5] (by rfl) rfl rfl ga_ ?_
         with_reducible refine (field_Mul.calls t301 (rd t322 x28_3) a5 t335 _ ?side1 A60.out).mono ?_
         (case side1 => repeat (first | with_reducible exact HG.out | with_reducible exact (Fld.below HG.out HB.out) | exact (Fld.below HG.out (by repeat (first | (with_reducible first | exact HB.out | apply below_alloc | apply pw_below_drewN | apply below_drew1 | refine below_set ?_ GE304.out) | exact HB.out))) | (with_reducible refine Fld.alloc ?_ _) | (with_reducible refine Fld.drewN ?_ _) | (with_reducible refine Fld.drew ?_)))
         rintro e w65 ⟨rfl, hb⟩
         have HS3_ := (hb.cell (World.block_lt_of_cell? _ _ (hHeld.2.2.2.1))).trans (hHeld.2.2.2.1)
         have HS4_ := (hb.cell (World.block_lt_of_cell? _ _ (hHeld.2.2.2.2))).trans (hHeld.2.2.2.2)
         refine ⟨_, rfl, ?_⟩
         refine nx6_ (Kd.R_below (rU_ HO_20.out) hb) (Kd.R_below (rU_ HO_22.out) hb) (Kd.R_below (rU_ HO_24.out) hb) (Kd.R_below (rU_ HO_26.out) hb) (blk_below (g := gb304) (o := .cells #[.int .i64 t301, .int .i64 t302, .int .u64 t303] 24 (0, 0)) (by (with_reducible repeat (first | refine blk_drewN ?_ _ | refine blk_drew ?_ | refine blk_alloc ?_ _)); exact BK304.out) hb) (below_step (by repeat (first | (with_reducible first | exact HB.out | apply below_alloc | apply pw_below_drewN | apply below_drew1 | refine below_set ?_ GE304.out) | exact HB.out)) hb) ?_
         clear HO_20 HO_22 HO_24 HO_26 BK304 HB
         intro HO_20 HO_22 HO_24 HO_26 BK304 HB
         (try clear hb)
         (try clear hb2)
         (try clear hk)
         (try clear hi)
         refine hK.out _ _ ⟨(blk_cell BK304.out 0).trans rfl, (blk_cell BK304.out 1).trans rfl, (blk_cell BK304.out 2).trans rfl, HS3_, HS4_⟩ (fun hHeld => ?_)
         clear hK K
         refine norm_ (a' := ?_) ?_ ?_
         rotate_left
         ·show Act.put _ (some 131) _ = _
          simp only [Act.put, s1_, s2_, s3_, i64_w, i32_w]
          rfl
         refine one_ (i := 15) (N := some 136) (bv 19 65535) rfl rfl (one_of HT_.out (by kernel_rfl)) (by decide) (fun K hK => ?_)
         refine goes_ Tryd.func18 (by kernel_rfl) rfl #[.int .i64 t301, .int .u64 t335, .int .u64 (rd t326 x28_3)] (by rfl) rfl rfl ga_ ?_
         with_reducible refine (field_Add.calls t301 t335 (rd t326 x28_3) t337 _ ?side1 A62.out).mono ?_
         (case side1 => repeat (first | with_reducible exact HG.out | with_reducible exact (Fld.below HG.out HB.out) | exact (Fld.below HG.out (by repeat (first | (with_reducible first | exact HB.out | apply below_alloc | apply pw_below_drewN | apply below_drew1 | refine below_set ?_ GE304.out) | exact HB.out))) | (with_reducible refine Fld.alloc ?_ _) | (with_reducible refine Fld.drewN ?_ _) | (with_reducible refine Fld.drew ?_)))
         rintro e w66 ⟨rfl, hb⟩
         have HS3_ := (hb.cell (World.block_lt_of_cell? _ _ (hHeld.2.2.2.1))).trans (hHeld.2.2.2.1)
         have HS4_ := (hb.cell (World.block_lt_of_cell? _ _ (hHeld.2.2.2.2))).trans (hHeld.2.2.2.2)
         refine ⟨_, rfl, ?_⟩
         refine nx6_ (Kd.R_below (rU_ HO_20.out) hb) (Kd.R_below (rU_ HO_22.out) hb) (Kd.R_below (rU_ HO_24.out) hb) (Kd.R_below (rU_ HO_26.out) hb) (blk_below (g := gb304) (o := .cells #[.int .i64 t301, .int .i64 t302, .int .u64 t303] 24 (0, 0)) (by (with_reducible repeat (first | refine blk_drewN ?_ _ | refine blk_drew ?_ | refine blk_alloc ?_ _)); exact BK304.out) hb) (below_step (by repeat (first | (with_reducible first | exact HB.out | apply below_alloc | apply pw_below_drewN | apply below_drew1 | refine below_set ?_ GE304.out) | exact HB.out)) hb) ?_
         clear HO_20 HO_22 HO_24 HO_26 BK304 HB
         intro HO_20 HO_22 HO_24 HO_26 BK304 HB
         (try clear hb)
         (try clear hb2)
         (try clear hk)
         (try clear hi)
         refine hK.out _ _ ⟨(blk_cell BK304.out 0).trans rfl, (blk_cell BK304.out 1).trans rfl, (blk_cell BK304.out 2).trans rfl, HS3_, HS4_⟩ (fun hHeld => ?_)
         clear hK K
         refine norm_ (a' := ?_) ?_ ?_
         rotate_left
         ·show Act.put _ (some 136) _ = _
          simp only [Act.put, s1_, s2_, s3_, i64_w, i32_w]
          rfl
         refine last_ (i := 16) (N := some 137) #[true, true, true, true, true, true, true, true, true, true, true, true, true, true, true, true, true, false, false] rfl rfl (one_of HT_.out (by kernel_rfl)) (by decide) (fun K hK => ?_)
         refine value_ (w1 := ?_) (v := ?_) (by rfl) rfl ?_ ?_
         rotate_left 2
         ·go_simp
          constructor
          ·rfl
          ·rfl
         refine hK.out _ _ ?_
         clear hK K
         refine norm_ (a' := ?_) ?_ ?_
         rotate_left
         ·show Act.put _ (some 137) _ = _
          simp only [Act.put, s1_, s2_, s3_, i64_w, i32_w]
          rfl
         refine last_ (i := 17) (N := some 138) #[true, true, true, true, true, true, true, true, true, true, true, true, true, true, true, true, true, true, false] rfl rfl (one_of HT_.out (by kernel_rfl)) (by decide) (fun K hK => ?_)
         refine Kd.R_append_step (Kd.int .u64) (w0 := w) w.heap.size (by rfl) (.tmp 121) (.tmp 137) 33 22 (.int .u64 0) 8 rfl Tryd.underlying33 info22 rfl (by decide) (by omega) u20 x20_3 t337 [.int .u64 t337] (fun k_ => some k_ ≠ (.slice (some ad334) t322.length co54 : Value).ownBlock ∧ some k_ ≠ (.slice (some ad336) t326.length co55 : Value).ownBlock ∧ some k_ ≠ (v331 : Value).ownBlock) (fun _ => False) rfl rfl ?aP (fun _ hk => hk.elim) ?aF ?aO ?aB ?aS ?aL ?_
         (case aP => exact rfl)
         (case aB => exact (by repeat (first | (with_reducible first | exact HB.out | apply below_alloc | apply pw_below_drewN | apply below_drew1 | refine below_set ?_ GE304.out) | exact HB.out)))
         (case aF => exact (fun k_ hk => ⟨Kd.fresh' (Kd.R_lt (rU_ HO_22.out)) k_ hk, Kd.fresh' (Kd.R_lt (rU_ HO_24.out)) k_ hk, Kd.fresh' (Kd.R_lt (rU_ HO_26.out)) k_ hk⟩))
         (case aO => exact (rU_ HO_20.out))
         (case aS => exact (below_size (by repeat (first | (with_reducible first | exact HB.out | apply below_alloc | apply pw_below_drewN | apply below_drew1 | refine below_set ?_ GE304.out) | exact HB.out))))
         (case aL => have := LMc63.out; omega)
         intro v339 w67 ho hb hg hat
         rw [← Ny338.out] at ho
         refine nx6_ (Kd.R_after (ok := (fun k_ => some k_ ≠ (.slice (some ad336) t326.length co55 : Value).ownBlock ∧ some k_ ≠ (v331 : Value).ownBlock)) (Kd.R_mono (rU_ HO_22.out) (fun _ hk => ⟨⟨hk.2.1, hk.2.2⟩, hk.1⟩)) hg hat) (Kd.R_after (ok := (fun k_ => some k_ ≠ (.slice (some ad334) t322.length co54 : Value).ownBlock ∧ some k_ ≠ (v331 : Value).ownBlock)) (Kd.R_mono (rU_ HO_24.out) (fun _ hk => ⟨⟨hk.2.1, hk.2.2⟩, hk.1⟩)) hg hat) (Kd.R_after (ok := (fun k_ => some k_ ≠ (.slice (some ad334) t322.length co54 : Value).ownBlock ∧ some k_ ≠ (.slice (some ad336) t326.length co55 : Value).ownBlock)) (Kd.R_mono (rU_ HO_26.out) (fun _ hk => ⟨⟨hk.2.1, hk.2.2⟩, hk.1⟩)) hg hat) (blk_grown (g := gb304) (o := .cells #[.int .i64 t301, .int .i64 t302, .int .u64 t303] 24 (0, 0)) (by (with_reducible repeat (first | refine blk_drewN ?_ _ | refine blk_drew ?_ | refine blk_alloc ?_ _)); exact BK304.out) hg (Kd.R_ne HO_20.out BK304.out (by decide))) (hb) (ho) ?_
         clear HO_22 HO_24 HO_26 BK304 HB HO_20
         intro HO_22 HO_24 HO_26 BK304 HB HO340
         clear ho hb hg hat
         refine hK.out _ _ ?_
         clear hK K
         refine norm_ (a' := ?_) ?_ ?_
         rotate_left
         ·show Act.put _ (some 138) _ = _
          simp only [Act.put, s1_, s2_, s3_, i64_w, i32_w]
          rfl
         refine pr_ (i := 18) (N := some 20) (v := ?_) (a' := ?_) (bv 19 524287) HT_.out ?_ ?_ ?_; rotate_left 2; (intro w'; go_simp; with_reducible rfl); (simp only [Act.put, s1_, s2_, s3_, i64_w, i32_w]; rfl)
         refine done_ (done_of HT_.out (by kernel_rfl)) ?_
         try go_wp2
         go_roundg k3
         case measure => have := HK1.out; have := HJ45.out; have := HK3.out; omega
         case rel => exact ⟨(y338), (wrap64 (x28_3 + 1)), gb_, H', ⟨by have := HK1.out; have := HJ45.out; have := HK3.out; omega⟩, ⟨by (try simp only [hl17_1]); (try simp only [hl18_1]); (with_reducible repeat (first | apply Kd.R_alloc | apply Kd.R_drewN | apply Kd.R_drew)); exact HO340.out⟩, ⟨by (try simp only [hl17_1]); (try simp only [hl18_1]); (with_reducible repeat (first | apply Kd.R_alloc | apply Kd.R_drewN | apply Kd.R_drew)); exact Kd.R_mono HO_22.out (fun _ hk => ⟨hk.2, ⟨hk.1.1, hk.1.2⟩⟩)⟩, ⟨by (try simp only [hl17_1]); (try simp only [hl18_1]); (with_reducible repeat (first | apply Kd.R_alloc | apply Kd.R_drewN | apply Kd.R_drew)); exact Kd.R_mono HO_24.out (fun _ hk => ⟨hk.2, ⟨hk.1.1, hk.1.2⟩⟩)⟩, ⟨by (try simp only [hl17_1]); (try simp only [hl18_1]); (with_reducible repeat (first | apply Kd.R_alloc | apply Kd.R_drewN | apply Kd.R_drew)); exact Kd.R_mono HO_26.out (fun _ hk => ⟨hk.2, ⟨hk.1.1, hk.1.2⟩⟩)⟩, ⟨by (try simp only [hl17_1]); (try simp only [hl18_1]); (with_reducible repeat (first | refine blk_drewN ?_ _ | refine blk_drew ?_ | refine blk_alloc ?_ _)); exact BK304.out⟩, ⟨by repeat (first | (with_reducible first | exact HB.out | apply below_alloc | apply pw_below_drewN | apply below_drew1 | refine below_set ?_ GE304.out) | exact HB.out)⟩⟩
        ·rw [if_neg c57] at H
         have c57b0 := decide_eq_false c57
         clear c57
         revert H
         refine bd_ fun t341 A68 H => ?_
         by_cases c69 : t341 = true
         ·subst c69
          rw [if_pos rfl] at H
          revert H
          refine bd_ fun t342 A70 H => ?_
          obtain rfl := Option.some.inj H
          obtain ⟨Ao71, co71, eo71⟩ := Kd.R_slice HO_26.out
          subst eo71
          obtain ⟨Ao72, co72, eo72⟩ := Kd.R_slice HO_20.out
          subst eo72
          go_wp2_with (first | ((with_reducible refine gate_callee (f := 21) rfl ?_); refine gl_ (some 141) Tryd.func21 #[.slice Ao71 t330.length co71, .slice Ao72 x20_3.length co72] ?_; (with_reducible refine (attestorlaw09_same.calls k3 _ _ t330 _ _ x20_3 true _ ?side1 ?side2 ?side3 ?side4 A68.out).mono ?_); (case side1 => exact cU_ ((Kd.R_reads' HO_26.out).2.2)); (case side2 => exact (Kd.R_reads' HO_26.out).2.1); (case side3 => exact cU_ ((Kd.R_reads' HO_20.out).2.2)); (case side4 => exact (Kd.R_reads' HO_20.out).2.1); rintro e w' ⟨rfl, ⟨nd, rfl⟩⟩; refine ⟨_, rfl, ?_⟩) | (go_at_call 16; (with_reducible refine (attestorlaw09_works.calls k3  t342 _ ?side1 A70.out).mono ?_); (case side1 => repeat (first | with_reducible exact HG.out | with_reducible exact (Fld.below HG.out HB.out) | exact (Fld.below HG.out (by repeat (first | (with_reducible first | exact HB.out | apply below_alloc | apply pw_below_drewN | apply below_drew1 | refine below_set ?_ GE304.out) | exact HB.out))) | (with_reducible refine Fld.alloc ?_ _) | (with_reducible refine Fld.drewN ?_ _) | (with_reducible refine Fld.drew ?_))); rintro e w73 ⟨rfl, hb⟩; refine nx6_ (Kd.R_below (rU_ HO_20.out) hb) (Kd.R_below (rU_ HO_22.out) hb) (Kd.R_below (rU_ HO_24.out) hb) (Kd.R_below (rU_ HO_26.out) hb) (blk_below (g := gb304) (o := .cells #[.int .i64 t301, .int .i64 t302, .int .u64 t303] 24 (0, 0)) (by (with_reducible repeat (first | refine blk_drewN ?_ _ | refine blk_drew ?_ | refine blk_alloc ?_ _)); exact BK304.out) hb) (below_step (by repeat (first | (with_reducible first | exact HB.out | apply below_alloc | apply pw_below_drewN | apply below_drew1 | refine below_set ?_ GE304.out) | exact HB.out)) hb) ?_; clear HO_20 HO_22 HO_24 HO_26 BK304 HB; intro HO_20 HO_22 HO_24 HO_26 BK304 HB; clear hb))
          go_ret
          exact ⟨by first | rfl | (simp [errW_none, errW_some] <;> rfl) | (simp only [← hji9, ← hji11]; first | rfl | (simp [errW_none, errW_some] <;> rfl)) | (simp [*, errW_none, errW_some] <;> rfl), by repeat (first | (with_reducible first | exact HB.out | apply below_alloc | apply pw_below_drewN | apply below_drew1 | refine below_set ?_ GE304.out) | exact HB.out)⟩
         ·replace c69 := Bool.eq_false_iff.mpr c69
          subst c69
          rw [if_neg (show ¬ (false = true) by decide)] at H
          exact absurd H (by simp)

/-- THE ONE PURE STATEMENT of attestorlaw09_FoldLinear: yours. -/
def attestorlaw09_FoldLinear.Pure : Prop := ∀ (a0 : Int) (a1 : Int) (a2 : Int) (l3 : List Int) (l4 : List Int) (a5 : Int) (a6 : Int), (Lit.int .u8 a0).wf = true → (Lit.int .u8 a1).wf = true → (Lit.int .u64 a2).wf = true → l3.length ≤ maxLen → l3.length * 8 ≤ 140737488351232 → (∀ x ∈ l3, (Lit.int .u64 x).wf = true) → l4.length ≤ maxLen → l4.length * 8 ≤ 140737488351232 → (∀ x ∈ l4, (Lit.int .u64 x).wf = true) → (Lit.int .u64 a5).wf = true → (Lit.int .u64 a6).wf = true → ∃ k, attestorlaw09_FoldLinear.f k a0 a1 a2 l3 l4 a5 a6 = some true
theorem attestorlaw09_FoldLinear.walk (P : attestorlaw09_FoldLinear.Pure) (a0 : Int) (a1 : Int) (a2 : Int) (a3 : Option Addr) (len3 cap3 : Nat) (z3 : List Int) (a4 : Option Addr) (len4 cap4 : Nat) (z4 : List Int) (a5 : Int) (a6 : Int) (w : World) (hG : Fld w) (w0 : (Lit.int .u8 a0).wf = true) (w1 : (Lit.int .u8 a1).wf = true) (w2 : (Lit.int .u64 a2).wf = true) (w3 : (a3 = none ∧ len3 = 0 ∧ cap3 = 0 ∧ z3 = []) ∨ ∃ x, a3 = some x ∧ len3 ≤ cap3 ∧ cap3 ≤ maxLen ∧ z3.length = cap3 ∧ (∀ i, i < z3.length → w.cell? (x.add i) = some (.int .u64 (z3.getD i 0))) ∧ ∀ n ∈ z3, (Lit.int .u64 n).wf = true) (y3 : len3 * 8 ≤ 140737488351232) (w4 : (a4 = none ∧ len4 = 0 ∧ cap4 = 0 ∧ z4 = []) ∨ ∃ x, a4 = some x ∧ len4 ≤ cap4 ∧ cap4 ≤ maxLen ∧ z4.length = cap4 ∧ (∀ i, i < z4.length → w.cell? (x.add i) = some (.int .u64 (z4.getD i 0))) ∧ ∀ n ∈ z4, (Lit.int .u64 n).wf = true) (y4 : len4 * 8 ≤ 140737488351232) (w5 : (Lit.int .u64 a5).wf = true) (w6 : (Lit.int .u64 a6).wf = true) :
  Calls Tryd.prog 4 #[.int .u8 a0, .int .u8 a1, .int .u64 a2, .slice a3 len3 cap3, .slice a4 len4 cap4, .int .u64 a5, .int .u64 a6] w fun e w' => e = .returned (.bool true) ∧ Below w.heap.size w w' := by
 obtain ⟨l3, rfl, hr3, hm3, hw3, hc3⟩ := ReadsInt.ofRowC w3
 obtain ⟨l4, rfl, hr4, hm4, hw4, hc4⟩ := ReadsInt.ofRowC w4
 obtain ⟨k, h⟩ := P a0 a1 a2 l3 l4 a5 a6 w0 w1 w2 hm3 y3 hw3 hm4 y4 hw4 w5 w6
 refine (attestorlaw09_FoldLinear.calls k a0 a1 a2 _ _ l3 _ _ l4 a5 a6 true w hG (Kd.C_of_reads (d := (0 : Int)) (h1 := fun _ => rfl) hr3) hc3 (Kd.C_of_reads (d := (0 : Int)) (h1 := fun _ => rfl) hr4) hc4 h).mono ?_
 rintro e w' ⟨rfl, hd⟩
 exact ⟨rfl, hd⟩

end Go.Proofs.YthinfmfjpaikiaaDoor.Q

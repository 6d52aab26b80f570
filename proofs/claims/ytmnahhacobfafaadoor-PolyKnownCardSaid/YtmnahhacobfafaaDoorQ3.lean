import Derived.Test.YtmnahhacobfafaaDoorQ0
import Derived.Test.YtmnahhacobfafaaDoorQ1
import Derived.Test.YtmnahhacobfafaaDoorQ2
namespace Go.Proofs.YtmnahhacobfafaaDoor.Q
open Go.RowKit Go.Proofs.YtmnahhacobfafaaDoorW.PrintWords Go.Proofs.YtmnahhacobfafaaDoorW.PrintLast Go.Proofs.YtmnahhacobfafaaDoorW.PrintMore
open Kd (R_below R_mono R_lower R_new' R_elder' R_base R_lt R_slice R_reads' R_lit R_make C_below R_drew)
attribute [local go_sem] max2_int min2_int max_two min_two max_three min_three max_four min_four   -- for this text's walks alone
set_option linter.unusedVariables false
set_option linter.unusedSimpArgs false

mutual
def poly_Split.j0 : Nat → Int → List Int → Int → Bool → Option ((List (List Int)))
 | 0, _, _, _, _ => none
 | k + 1, x0, x1, x2, x21 => if x21 = true then (some ([] : List (List Int))) else (if 0 ≤ x2 then (if (x2 : Int).toNat ≤ 11728124029610 then (poly_Split.l0 k x0 x2 (List.replicate (x2 : Int).toNat []) x1 (x1.length : Int) 0) else (none)) else (none))
def poly_Split.l0 : Nat → Int → Int → List (List Int) → List Int → Int → Int → Option ((List (List Int)))
 | 0, _, _, _, _, _, _ => none
 | k + 1, x0, x2, x7, x24, x25, x26 => if x26 < x25 then (if 0 ≤ x26 then (if x26 < (x24.length : Int) then (if x2 = 0 then (none) else (if 0 ≤ (Int.tmod x26 x2) then (if (Int.tmod x26 x2) < (x7.length : Int) then ((field_Reduce.f x0 (rd x24 x26)).bind fun t326 => (if (rd_L1 x7 (Int.tmod x26 x2)).length < 17592186044416 then (poly_Split.l0 k x0 x2 (x7.set ((Int.tmod x26 x2) : Int).toNat ((rd_L1 x7 (Int.tmod x26 x2)) ++ [t326])) x24 x25 (wrap64 (x26 + 1))) else (none))) else (none)) else (none))) else (none)) else (none)) else (poly_Split.l1 k x7 (x7.length : Int) 0)
def poly_Split.l1 : Nat → List (List Int) → Int → Int → Option ((List (List Int)))
 | 0, _, _, _ => none
 | k + 1, x7, x49, x50 => if x50 < x49 then (if 0 ≤ x50 then (if x50 < (x7.length : Int) then ((poly_trim.f k (rd_L1 x7 x50)).bind fun t332 => (poly_Split.l1 k (x7.set (x50 : Int).toNat t332) x49 (wrap64 (x50 + 1)))) else (none)) else (none)) else (some x7)
end
def poly_Split.f (k : Nat) (a0 : Int) (l1 : List Int) (a2 : Int) : Option ((List (List Int))) := (field_Valid.f a0).bind fun t320 => (if t320 = true then (if a2 < 1 then (poly_Split.j0 k a0 l1 a2 true) else (poly_Split.j0 k a0 l1 a2 (decide (a2 > 64)))) else (poly_Split.j0 k a0 l1 a2 true))
theorem poly_Split.mono_l : ∀ k, (∀ y0 y1 y2 y3, LeO (poly_Split.j0 k y0 y1 y2 y3) (poly_Split.j0 (k + 1) y0 y1 y2 y3)) ∧ (∀ y0 y1 y2 y3 y4 y5, LeO (poly_Split.l0 k y0 y1 y2 y3 y4 y5) (poly_Split.l0 (k + 1) y0 y1 y2 y3 y4 y5)) ∧ (∀ y0 y1 y2, LeO (poly_Split.l1 k y0 y1 y2) (poly_Split.l1 (k + 1) y0 y1 y2))
 | 0 => ⟨fun _ _ _ _ r h => by simp [poly_Split.j0] at h, fun _ _ _ _ _ _ r h => by simp [poly_Split.l0] at h, fun _ _ _ r h => by simp [poly_Split.l1] at h⟩
 | k + 1 => by
  obtain ⟨ih0, ih1, ih2⟩ := poly_Split.mono_l k
  refine ⟨?_, ?_, ?_⟩
  ·intro y0 y1 y2 y3
   unfold poly_Split.j0
   with_reducible repeat' first | apply ih0 | apply ih1 | apply ih2 | apply poly_trim.mono | exact LeO.refl _ | exact LeO.none _ | refine LeO.ite ?_ ?_ | refine LeO.bind ?_ (fun _ => ?_)
  ·intro y0 y1 y2 y3 y4 y5
   unfold poly_Split.l0
   with_reducible repeat' first | apply ih0 | apply ih1 | apply ih2 | apply poly_trim.mono | exact LeO.refl _ | exact LeO.none _ | refine LeO.ite ?_ ?_ | refine LeO.bind ?_ (fun _ => ?_)
  intro y0 y1 y2
  unfold poly_Split.l1
  with_reducible repeat' first | apply ih0 | apply ih1 | apply ih2 | apply poly_trim.mono | exact LeO.refl _ | exact LeO.none _ | refine LeO.ite ?_ ?_ | refine LeO.bind ?_ (fun _ => ?_)
theorem poly_Split.mono : ∀ a0 a1 a2 k, LeO (poly_Split.f k a0 a1 a2) (poly_Split.f (k + 1) a0 a1 a2) := by
 intro a0 a1 a2 k
 obtain ⟨ih0, ih1, ih2⟩ := poly_Split.mono_l k
 unfold poly_Split.f
 with_reducible repeat' first | apply ih0 | apply ih1 | apply ih2 | apply poly_trim.mono | exact LeO.refl _ | exact LeO.none _ | refine LeO.ite ?_ ?_ | refine LeO.bind ?_ (fun _ => ?_)
def poly_Split.T7 : Bool × List (List Nat × List Nat) := (true, [([], []), ([], []), ([], []), ([1, 2], [1, 2]), ([], []), ([], []), ([], []), ([5, 6], [5, 6]), ([4, 7], [4, 7]), ([8], [8]), ([], []), ([], []), ([10, 11], [10, 11]), ([12], [12]), ([9, 13, 12], [9, 13]), ([0, 3, 0, 1, 2, 3, 4, 5, 6, 7, 8, 9, 10, 11, 12, 13, 14], [0, 3]), ([15, 14, 14, 0, 1, 2, 3, 4, 5, 6, 7, 8, 9, 10, 11, 12, 13, 14], [14, 15])])
def poly_Split.B7 : List Nat := [0, 0, 0, 6, 0, 0, 0, 96, 240, 496, 0, 0, 3072, 7168, 16368, 32767, 65535]
theorem poly_Split.tab7 : rtab .any (opsOf Tryd.f40 7) = poly_Split.T7 := by kernel_rfl
theorem poly_Split.bits7 : waitsOk poly_Split.T7.2 poly_Split.B7 = true := by kernel_rfl
set_option maxHeartbeats 8000000 in
set_option maxRecDepth 100000 in
theorem poly_Split.calls (k : Nat) (a0 : Int) (A1 : Option Addr) (c1 : Nat) (l1 : List Int) (a2 : Int) (r : List (List Int)) (w : World) (hG : Fld w) (hr1 : Kd.C (Kd.int .u64) w A1 l1.length l1) (hc1 : l1.length ≤ c1) (h : poly_Split.f k a0 l1 a2 = some r) :
  Calls Tryd.prog 40 #[.int .i64 a0, .slice A1 l1.length c1, .int .i64 a2] w fun e w' => ∃ v0_ : Value, e = .returned (v0_) ∧ Kd.S (Kd.slice 32 (Kd.int .u64)) 22 w' w.heap.size (fun _ => True) v0_ r ∧ Below w.heap.size w w' := by
 have HG := ak hG
 clear hG
 have HR1 := ak hr1
 have HC1 := ak hc1
 clear hr1 hc1
 have HB := ak (Below.refl w.heap.size w)
 have H := h
 clear h
 unfold poly_Split.f at H
 have HC4 := ak H
 clear H
 go_enter Tryd.func40, Tryd.ntmps40
 go_upto_region 1 with (fail)
 go_cut [21] (fun v21 wc => ∃ (kq : Nat) (x21_3 : Bool), v21 = .bool x21_3 ∧ Aside0 (poly_Split.j0 kq a0 l1 a2 x21_3 = some r) ∧ Aside0 (kq ≤ k) ∧ Aside0 (Below w.heap.size w wc))
 case first =>
  have H := HC4.out
  clear HC4
  revert H
  refine bd_ fun t320 A5 H => ?_
  by_cases c6 : t320 = true
  ·subst c6
   rw [if_pos rfl] at H
   by_cases c7 : a2 < 1
   ·rw [if_pos c7] at H
    have c7b0 := decide_eq_true c7
    clear c7
    (first | rw [c7b0] | (simp only [i64_w, i32_w]; rw [c7b0]) | rw [c7b1] | skip)
    have H' := ak H
    clear H
    go_wp2_with (first | ((with_reducible refine gate_callee (f := 47) rfl ?_); refine gl_ (some 12) Tryd.func47 #[.int .i64 a0] ?_; (with_reducible refine (field_Valid.calls a0 true _ A5.out).mono ?_); rintro e w' ⟨rfl, ⟨nd, rfl⟩⟩; refine ⟨_, rfl, ?_⟩))
    go_meet
    case rel => exact ⟨_, (true), gb_, H', ⟨by first | omega | exact Nat.le_refl _⟩, ⟨bU_ HB.out⟩⟩
   rw [if_neg c7] at H
   have c7b0 := decide_eq_false c7
   clear c7
   (first | rw [c7b0] | (simp only [i64_w, i32_w]; rw [c7b0]) | rw [c7b1] | skip)
   have H' := ak H
   clear H
   go_wp2_with (first | ((with_reducible refine gate_callee (f := 47) rfl ?_); refine gl_ (some 12) Tryd.func47 #[.int .i64 a0] ?_; (with_reducible refine (field_Valid.calls a0 true _ A5.out).mono ?_); rintro e w' ⟨rfl, ⟨nd, rfl⟩⟩; refine ⟨_, rfl, ?_⟩))
   go_meet
   case rel => exact ⟨_, (decide (a2 > 64)), gb_, H', ⟨by first | omega | exact Nat.le_refl _⟩, ⟨bU_ HB.out⟩⟩
  replace c6 := Bool.eq_false_iff.mpr c6
  subst c6
  rw [if_neg (show ¬ (false = true) by decide)] at H
  have H' := ak H
  clear H
  go_wp2_with (first | ((with_reducible refine gate_callee (f := 47) rfl ?_); refine gl_ (some 12) Tryd.func47 #[.int .i64 a0] ?_; (with_reducible refine (field_Valid.calls a0 false _ A5.out).mono ?_); rintro e w' ⟨rfl, ⟨nd, rfl⟩⟩; refine ⟨_, rfl, ?_⟩))
  go_meet
  case rel => exact ⟨_, (true), gb_, H', ⟨by first | omega | exact Nat.le_refl _⟩, ⟨bU_ HB.out⟩⟩
 case rest =>
  clear HC4
  (try clear c1); (try clear p2); (try clear c4); (try clear c6); (try clear c7); (try clear c7b0); (try clear c7b1)
  obtain ⟨kq, x21_3, rfl, HA, HJ3, HB⟩ := hcut
  cases kq with
  | zero => exact absurd HA.out (by simp [poly_Split.j0])
  | succ kj3 =>
   have H := HA.out
   clear HA
   simp only [poly_Split.j0] at H
   by_cases c8 : x21_3 = true
   ·subst c8
    rw [if_pos rfl] at H
    obtain rfl := Option.some.inj H
    go_wp2
    go_ret
    exact ⟨_, eW_, by first | exact Kd.S_nil _ _ _ _ _ | exact Kd.N_nil _ _ _ _ _ | exact Kd.V_nil _ _ _ _ _ | exact Kd.Q_nil _ _ _ _ _ | exact Kd.R_nil _ _ _ _ _, bU_ HB.out⟩
   replace c8 := Bool.eq_false_iff.mpr c8
   subst c8
   rw [if_neg (show ¬ (false = true) by decide)] at H
   obtain ⟨c9, H⟩ : (0 ≤ a2) ∧ _ := it_ H
   have c9b0 := eq_true c9
   have c9b1 := decide_eq_true c9
   clear c9
   obtain ⟨c10, H⟩ : ((a2 : Int).toNat ≤ 11728124029610) ∧ _ := it_ H
   have c10b0 := eq_true c10
   have c10b1 := decide_eq_true c10
   clear c10
   obtain ⟨y321, hy321⟩ : ∃ y_ : List (List Int), y_ = (List.replicate (a2 : Int).toNat []) := ⟨_, rfl⟩
   replace H : (poly_Split.l0 kj3 a0 a2 y321 l1 (l1.length : Int) 0) = some r := by first | (rw [hy321]; with_reducible exact H) | (have H2_ := (Option.bind_some _ _).symm.trans H; rw [hy321]; with_reducible exact H2_) | (have H2_ := (Option.bind_some _ _).symm.trans H; with_reducible exact H2_) | with_reducible exact H | (rw [hy321]; exact H) | exact H
   have Ny321 := ak hy321
   clear hy321
   have H' := ak H
   clear H
   go_wp2_with (first | ((with_reducible refine gate_dst (N := 23) rfl ?_); refine Kd.S_make (Kd.slice 32 (Kd.int .u64)) _ 22 rfl (N := 23) rfl 45 _ _ rfl a2 ?hx ?hy Tryd.underlying45 (.slice none 0 0) 24 info22 rfl (by decide) (by omega) [] (ok := fun _ => True) (okp := fun _ => True) ⟨_, rfl, Kd.R_nil _ _ _ _ _⟩ (fun _ hk => hk) trivial od_ (Nat.le_trans (Nat.mul_le_mul_right _ (od_ : a2.toNat ≤ 11728124029610)) (by omega)) (Below.refl _ _) (Nat.le_refl _) ?_; (case hx => first | rfl); (case hy => first | rfl); intro v322 w11 ho12 hb hg_ hnew_; clear hg_ hnew_; (first | rw [← Ny321.out] at ho12 | (simp only [Int.reduceToNat] at ho12; rw [← Ny321.out] at ho12)); refine nx2_ (Kd.S_lower ho12 (below_size (bU_ HB.out))) (below_step (bU_ HB.out) hb) ?_; clear HB; intro HO323 HB; clear hb ho12))
   go_loopg [26] kj3 (fun kq v26 w' => ∃ (x7_2 : List (List Int)) (x26_2 : Int), v26 = .int .i64 x26_2 ∧ Aside0 (poly_Split.l0 kq a0 a2 x7_2 l1 (l1.length : Int) x26_2 = some r) ∧ Aside0 (kq ≤ kj3) ∧ Aside0 (Kd.S (Kd.slice 32 (Kd.int .u64)) 22 w' w.heap.size (fun _ => True) v322 x7_2) ∧ Aside0 (Below w.heap.size w w'))
   case atStart => exact ⟨(y321), (0), gb_, H', ⟨Nat.le_refl _⟩, ⟨by (with_reducible repeat (first | apply Kd.S_alloc | apply Kd.S_drewN | apply Kd.S_drew)); exact HO323.out⟩, ⟨bU_ HB.out⟩⟩
   case round =>
    clear H'
    (try clear c1); (try clear p2); (try clear c4); (try clear c6); (try clear c7); (try clear c7b0); (try clear c7b1); (try clear c8); (try clear c9); (try clear c9b0); (try clear c9b1); (try clear c10); (try clear c10b0); (try clear c10b1)
    obtain ⟨x7_2, x26_2, rfl, HA, HK2, HO_7, HB⟩ := hrel
    cases gk with
    | zero => exact absurd HA.out (by simp [poly_Split.l0])
    | succ k2 =>
     have H := HA.out
     clear HA
     simp only [poly_Split.l0] at H
     by_cases c13 : x26_2 < (l1.length : Int)
     ·rw [if_pos c13] at H
      have c13b0 := decide_eq_true c13
      clear c13
      obtain ⟨c14, H⟩ : (0 ≤ x26_2) ∧ _ := it_ H
      have c14b0 := decide_eq_true c14
      clear c14
      obtain ⟨c15, H⟩ : (x26_2 < (l1.length : Int)) ∧ _ := it_ H
      have c15b0 := decide_eq_true c15
      clear c15
      by_cases c16 : a2 = 0
      ·rw [if_pos c16] at H
       exact absurd H (by simp)
      rw [if_neg c16] at H
      have c16b0 := beq_eq_false_iff_ne.mpr c16
      have c16b1 := bne_iff_ne.mpr c16
      obtain ⟨ji17, hji17⟩ : ∃ j_ : Int, (Int.tmod x26_2 a2) = j_ := ⟨_, rfl⟩
      first | rw [hji17] at H | simp only [hji17] at H
      obtain ⟨c18, H⟩ : (0 ≤ (ji17)) ∧ _ := it_ H
      have c18b0 := decide_eq_true c18
      clear c18
      obtain ⟨c19, H⟩ : ((ji17) < (x7_2.length : Int)) ∧ _ := it_ H
      have c19b0 := decide_eq_true c19
      clear c19
      revert H
      refine bd_ fun t326 A20 H => ?_
      obtain ⟨c21, H⟩ : ((rd_L1 x7_2 (ji17)).length < 17592186044416) ∧ _ := it_ H
      have LMc21 := ak c21
      clear c21
      obtain ⟨y327, hy327⟩ : ∃ y_ : List Int, y_ = ((rd_L1 x7_2 (ji17)) ++ [t326]) := ⟨_, rfl⟩
      first | rw [Option.bind_some, ← hy327] at H | rw [← hy327] at H
      have Ny327 := ak hy327
      clear hy327
      obtain ⟨y330, hy330⟩ : ∃ y_ : List (List Int), y_ = (x7_2.set ((ji17) : Int).toNat y327) := ⟨_, rfl⟩
      replace H : (poly_Split.l0 k2 a0 a2 y330 l1 (l1.length : Int) (wrap64 (x26_2 + 1))) = some r := by first | (rw [hy330]; with_reducible exact H) | (have H2_ := (Option.bind_some _ _).symm.trans H; rw [hy330]; with_reducible exact H2_) | (have H2_ := (Option.bind_some _ _).symm.trans H; with_reducible exact H2_) | with_reducible exact H | (rw [hy330]; exact H) | exact H
      have Ny330 := ak hy330
      clear hy330
      have H' := ak H
      clear H
      have p324 : 0 ≤ (x26_2 : Int) := od_
      have q324 : x26_2 < (l1.length : Int) := od_
      obtain ⟨ad324, e324, hx324_0⟩ := Kd.at_int HR1.out x26_2 p324 q324
      cases e324
      replace hx324_0 := (HB.out.cell (World.block_lt_of_cell? w _ hx324_0)).trans hx324_0
      replace p324 := eq_true p324
      replace q324 := eq_true q324
      try go_wp2
      refine nx2_ (Kd.S_drew HO_7.out) (below_drew1 HB.out) ?_
      clear HO_7 HB
      intro HO_7 HB
      obtain ⟨Ao24, co24, eo24⟩ := Kd.S_slice HO_7.out
      (first | subst eo24 | (injection eo24 with f1_ f2_ f3_; have f4_ := f1_.symm; have f5_ := f3_.symm; clear f1_ f2_ f3_; subst f4_; subst f5_))
      have p325 : 0 ≤ ((ji17) : Int) := od_
      have q325 : (ji17) < (x7_2.length : Int) := od_
      obtain ⟨ad325, A325_0, c325_0, e325, hx325_0, hl325_0, hi325_0⟩ := at_L1 (Kd.S_reads' HO_7.out).2.2 (ji17) p325 q325
      cases e325
      obtain ⟨ce325, hce325, hMe325, hcc325⟩ := Kd.S_get HO_7.out [] (ji17) p325 (by first | exact q325 | exact od_ | (have e_ := (Kd.S_reads' HO_7.out).1; omega))
      obtain ⟨ve325_0, rfl, ge325_0⟩ := hMe325
      have hv325_0 := hcc325 0 _ rfl
      rw [Nat.add_zero, show ((Kd.slice 32 (Kd.int .u64))).sz = 1 from rfl, Nat.mul_one] at hv325_0
      replace hv325_0 := Option.some.inj (hv325_0.symm.trans hx325_0)
      rw [hv325_0] at ge325_0
      have HL325_0 := ak (show Kd.R (Kd.int .u64) 32 _ _ _ _ (rd_L1 x7_2 (ji17)) from ge325_0)
      clear hv325_0 ge325_0
      have HX325_0 := ak hx325_0
      clear hcc325 hce325
      have HR325_0 := ak hi325_0
      have HC325_0 := ak hl325_0
      clear hi325_0 hl325_0
      replace p325 := eq_true p325
      replace q325 := eq_true q325
      refine start_ (n := 17) (S := fun w' => w'.cell? (ad325.add ((ji17)).toNat) = some (.slice A325_0 (rd_L1 x7_2 (ji17)).length c325_0)) (ds := [16]) (bv 17 0) (by kernel_rfl) rfl rfl (hx325_0) (fun hHeld => ?_); refine with_tabW poly_Split.tab7 poly_Split.bits7 (fun HT_ HW_ => ?_)
      generalize wr.drew = w23 at HO_7 HB HL325_0 HR325_0 HX325_0 hx325_0 hHeld ⊢
      refine pq_ 0 31 17 1 HT_.out ?_
      refine pq_ 1 32 17 3 HT_.out ?_
      refine pq_ 2 33 17 7 HT_.out ?_
      refine pq_ 3 34 17 15 HT_.out ?_
      refine pq_ 4 35 17 31 HT_.out ?_
      refine pq_ 5 36 17 63 HT_.out ?_
      refine pq_ 6 37 17 127 HT_.out ?_
      refine pq_ 7 38 17 255 HT_.out ?_
      refine pq_ 8 39 17 511 HT_.out ?_
      refine pq_ 10 41 17 1535 HT_.out ?_
      refine pq_ 11 42 17 3583 HT_.out ?_
      refine take_ (i := 9) (N := some 40) (v := ?_) (a' := ?_) (bv 17 4095) rfl rfl (take_ofW HT_.out HW_.out (by kernel_rfl)) (fun _ _ _ h => h) (Or.inl ⟨by rfl, ?_⟩) hHeld ?_ ?_
      rotate_left
      ·intro w' s0
       go_simp
       with_reducible rfl
      rotate_left
      ·simp only [Act.put, s1_, s2_, s3_, i64_w, i32_w]
       rfl
      refine oq_ 12 43 17 8191 HT_.out fun K hK => ?_
      refine gs_ Tryd.func26 #[.int .i64 a0, .int .u64 (rd l1 x26_2)] ?_
      with_reducible refine (field_Reduce.calls a0 (rd l1 x26_2) t326 _ ?side1 A20.out).mono ?_
      (case side1 => exact fU_ HG.out HB.out)
      rintro e w25 ⟨rfl, hb⟩
      have HS0_ := (hb.cell (World.block_lt_of_cell? _ _ (hHeld))).trans (hHeld)
      refine ⟨_, rfl, ?_⟩
      refine nx5_ (Kd.S_below (by (with_reducible repeat (first | apply Kd.S_alloc | apply Kd.S_drewN | apply Kd.S_drew)); exact HO_7.out) hb) (R_below (rU_ HL325_0.out) hb) (C_below (by repeat (first | (with_reducible exact HR325_0.out) | (with_reducible refine Kd.C_alloc ?_ _) | (with_reducible refine Kd.C_drewN ?_ _) | (with_reducible refine Kd.C_drew ?_) | exact HR325_0.out)) hb) (pw_cell_below hb HX325_0.out) (below_step (bU_ HB.out) hb) ?_
      clear HO_7 HL325_0 HR325_0 HX325_0 HB
      intro HO_7 HL325_0 HR325_0 HX325_0 HB
      (try clear hb)
      (try clear hb2)
      (try clear hk)
      (try clear hi)
      obtain ⟨go26, co26, eo26, gb26, gl26, cl26, HG26⟩ := Kd.S_form HO_7.out (by have h_ : ((ji17) : Int) < ((x7_2.length : Int) : Int) := od_; have h2_ : 0 ≤ ((ji17) : Int) := od_; omega)
      (first | cases eo26 | (injection eo26 with ea_ en_ ec_; (first | subst ea_ | (injection ea_ with ea_; subst ea_)); subst ec_; clear en_))
      have GB26 := ak gb26
      have GG26 := ak HG26
      clear gb26 gl26 HG26
      (first | simp only [add_plain] at hx325_0 | skip)
      obtain ⟨oki26, ce26, hcl26, hM26, hcc26, _, _, hH26⟩ := Kd.S_elem HO_7.out [] ((ji17) : Int) od_ (by have h_ : ((ji17) : Int) < ((x7_2.length : Int) : Int) := od_; first | exact h_ | (have e_ := (Kd.S_reads' HO_7.out).1; omega) | simpa using h_)
      obtain ⟨ve26_0, rfl, ge26_0⟩ := hM26
      have hv26 := hcc26 0 _ rfl
      have hX26 := HX325_0.out
      (try simp only [add_plain] at hX26)
      (try simp only [Nat.add_zero] at hv26)
      (try rw [show ((Kd.slice 32 (Kd.int .u64))).sz = 1 from rfl, Nat.mul_one] at hv26)
      replace hv26 := Option.some.inj (hv26.symm.trans hX26)
      subst hv26
      clear hX26 hcc26 hcl26
      have UU26 := ak (show Kd.R (Kd.int .u64) 32 _ w.heap.size oki26 (.slice A325_0 (rd_L1 x7_2 (ji17)).length c325_0) (rd_L1 x7_2 (ji17)) from ge26_0)
      have HH26 := ak hH26
      have HN26 := ak (Kd.S_reads' HO_7.out).1
      clear hH26 ge26_0
      refine hK.out _ _ (HS0_) (fun hHeld => ?_)
      clear hK K
      refine norm_ (a' := ?_) ?_ ?_
      rotate_left
      ·show Act.put _ (some 43) _ = _
       simp only [Act.put, s1_, s2_, s3_, i64_w, i32_w]
       rfl
      refine oq_ 13 44 17 16383 HT_.out fun K hK => ?_
      refine value_ (w1 := ?_) (v := ?_) (by rfl) rfl ?_ ?_
      rotate_left 2
      ·go_simp
       constructor
       ·rfl
       rfl
      refine hK.out _ _ ((World.cell?_alloc_lt _ _ _ (World.block_lt_of_cell? _ _ (hHeld))).trans (hHeld)) (fun hHeld => ?_)
      clear hK K
      refine norm_ (a' := ?_) ?_ ?_
      rotate_left
      ·show Act.put _ (some 44) _ = _
       simp only [Act.put, s1_, s2_, s3_, i64_w, i32_w]
       rfl
      refine oq_ 14 45 17 32767 HT_.out fun K hK => ?_
      refine Kd.R_append_step (Kd.int .u64) (w0 := w) w.heap.size (by rfl) (.tmp 40) (.tmp 44) 22 32 (.int .u64 0) 8 rfl Tryd.underlying22 info32 rfl (by decide) (by omega) (.slice A325_0 (rd_L1 x7_2 (ji17)).length c325_0) (rd_L1 x7_2 (ji17)) t326 [.int .u64 t326] (fun k_ => oki26 k_ ∨ ((fun _ => True)) k_ ∧ w25.heap.size ≤ k_) (fun _ => False) rfl rfl ?aP (fun _ hk => hk.elim) ?aF ?aO ?aB ?aS ?aL ?_
      (case aP => exact rfl)
      (case aB => exact (bU_ HB.out))
      (case aF => exact (fun k_ hk => .inr ⟨trivial, hk⟩))
      (case aO => exact (R_mono (rU_ UU26.out) (fun _ hk => .inl hk)))
      (case aS => exact (below_size (bU_ HB.out)))
      (case aL => have := LMc21.out; omega)
      intro v328 w27 ho hb hg hat
      (first | have HS0_ := cell_grown hg (hHeld) (by first | (rw [add_block]; exact (fun e_ => ((HL325_0.out.1 _ e_.symm).2) rfl)) | (show some (Addr.add _ _).block ≠ _; rw [add_block]; exact (fun e_ => ((HL325_0.out.1 _ e_.symm).2) rfl)) | exact (fun e_ => ((HL325_0.out.1 _ e_.symm).2) rfl)) | have HS0_ := cell_grown hg (cell_unalloc (hHeld) (by first | (rw [add_block]; exact Kd.S_lt HO_7.out _ rfl) | (show (Addr.add _ _).block < _; rw [add_block]; exact Kd.S_lt HO_7.out _ rfl) | exact Kd.S_lt HO_7.out _ rfl)) (by first | (rw [add_block]; exact (fun e_ => ((HL325_0.out.1 _ e_.symm).2) rfl)) | (show some (Addr.add _ _).block ≠ _; rw [add_block]; exact (fun e_ => ((HL325_0.out.1 _ e_.symm).2) rfl)) | exact (fun e_ => ((HL325_0.out.1 _ e_.symm).2) rfl)))
      rw [← Ny327.out] at ho
      refine nx3_ (hb) (Kd.H_grown (Kd.H_widen (by repeat (first | exact HH26.out | refine Kd.H_alloc ?_ _ | refine Kd.H_drewN ?_ _ | refine Kd.H_drew ?_))) hg (fun k_ e_ => .inl (UU26.out.1 k_ e_))) (ho) ?_
      clear HB HH26 HO_7 UU26 HL325_0
      intro HB HH26 HO329
      clear ho hb hg hat
      have p22 : 0 ≤ ((ji17) : Int) := od_
      have q22 : ((ji17) : Int) < ((x7_2.length : Int) : Int) := od_
      replace p22 := eq_true p22
      replace q22 := eq_true q22
      obtain ⟨Ao30, co30, eo30⟩ := R_slice HO329.out
      (first | subst eo30 | (injection eo30 with f1_ f2_ f3_; have f4_ := f1_.symm; have f5_ := f3_.symm; clear f1_ f2_ f3_; subst f4_; subst f5_))
      obtain ⟨_, _, hraw28, _, _, hcc28, _⟩ := Kd.H_raw HH26.out od_ (by have h_ : ((ji17) : Int) < ((x7_2.length : Int) : Int) := od_; first | exact h_ | (have e_ := (HN26.out); omega) | simpa using h_)
      obtain ⟨_, hfr28⟩ := Kd.H_at HH26.out od_ (by have h_ : ((ji17) : Int) < ((x7_2.length : Int) : Int) := od_; first | exact h_ | (have e_ := (HN26.out); omega) | simpa using h_)
      have hx28_0 := hcc28 0 _ rfl
      have hf28_0 := hfr28 0
      (try simp only [Nat.add_zero] at hx28_0 hf28_0)
      (try rw [show ((Kd.slice 32 (Kd.int .u64))).sz = 1 from rfl, Nat.mul_one] at hx28_0)
      (try rw [show ((Kd.slice 32 (Kd.int .u64))).sz = 1 from rfl, Nat.mul_one] at hf28_0)
      have HP28 := Kd.S_seg0 HH26.out od_ (by have h_ : ((ji17) : Int) < ((x7_2.length : Int) : Int) := od_; first | exact h_ | (have e_ := (HN26.out); omega) | simpa using h_) (seg := [.slice Ao30 y327.length co30]) (j := 0) (show 1 ≤ 1 from by decide) (x' := y327) (Kd.M_row HO329.out) (fun _ hk => hk)
      (try simp only [show ((Kd.slice 32 (Kd.int .u64))).sz = 1 from rfl, Nat.mul_one, Nat.add_zero] at HP28)
      clear hcc28 hfr28
      have HS28 := HP28.1
      rw [← Ny330.out] at HS28
      have HQ28 := ak HS28
      obtain ⟨_, hgg28⟩ := Kd.R_typed hraw28 go26 rfl
      have GG28_ := ak hgg28
      clear HP28 HS28 hgg28
      refine hK.out _ _ (HS0_) (fun hHeld => ?_)
      clear hK K
      refine norm_ (a' := ?_) ?_ ?_
      rotate_left
      ·show Act.put _ (some 45) _ = _
       simp only [Act.put, s1_, s2_, s3_, i64_w, i32_w]
       rfl
      refine pq_ 15 46 17 65535 HT_.out ?_
      refine last_ (i := 16) (N := none) #[true, true, true, true, true, true, true, true, true, true, true, true, true, true, true, true, true] rfl rfl (one_of HT_.out (by kernel_rfl)) (by decide) (fun K hK => ?_)
      refine skip_ (w1 := ?_) (by rfl) rfl ?_ ?_
      rotate_left
      ·go_simp
       rfl
      refine hK.out _ _ ?_
      clear hK K
      refine done_ (done_of HT_.out (by kernel_rfl)) ?_
      try go_wp2
      go_roundg k2
      case measure => have := HJ3.out; have := HK2.out; omega
      case rel => exact ⟨(y330), (wrap64 (x26_2 + 1)), gb_, H', ⟨by have := HJ3.out; have := HK2.out; omega⟩, ⟨by (with_reducible repeat (first | apply Kd.S_alloc | apply Kd.S_drewN | apply Kd.S_drew)); exact HQ28.out⟩, ⟨sU_⟩⟩
     rw [if_neg c13] at H
     have c13b0 := decide_eq_false c13
     clear c13
     have H' := ak H
     clear H
     obtain ⟨Ao31, co31, eo31⟩ := Kd.S_slice HO_7.out
     subst eo31
     go_wp2
     go_loopg [50] k2 (fun kq v50 w' => ∃ (x7_3 : List (List Int)) (x50_3 : Int), v50 = .int .i64 x50_3 ∧ Aside0 (poly_Split.l1 kq x7_3 (x7_2.length : Int) x50_3 = some r) ∧ Aside0 (kq ≤ k2) ∧ Aside0 (Kd.S (Kd.slice 32 (Kd.int .u64)) 22 w' w.heap.size (fun _ => True) (.slice Ao31 x7_2.length co31) x7_3) ∧ Aside0 (Below w.heap.size w w'))
     case atStart => exact ⟨(x7_2), (0), gb_, H', ⟨Nat.le_refl _⟩, ⟨by (with_reducible repeat (first | apply Kd.S_alloc | apply Kd.S_drewN | apply Kd.S_drew)); exact HO_7.out⟩, ⟨bU_ HB.out⟩⟩
     case round =>
      clear H'
      (try clear c1); (try clear c2); (try clear p2); (try clear q2); (try clear hx2); (try clear c3); (try clear p3); (try clear q3); (try clear hx3); (try clear c4); (try clear c6); (try clear p6); (try clear c7); (try clear c7b0); (try clear c7b1); (try clear c8); (try clear c9); (try clear c9b0); (try clear c9b1); (try clear c10); (try clear c10b0); (try clear c10b1); (try clear c13); (try clear c13b0); (try clear c14); (try clear c14b0); (try clear c15); (try clear c15b0); (try clear c16); (try clear c16b0); (try clear c16b1); (try clear c18); (try clear c18b0); (try clear c19); (try clear c19b0); (try clear c21); (try clear p22); (try clear q22); (try clear c26); (try clear c28); (try clear hx28); (try clear hf28); (try clear hx28_0); (try clear hx324_0); (try clear hx325_0); (try clear p324); (try clear p325); (try clear q324); (try clear q325)
      obtain ⟨x7_3, x50_3, rfl, HA, HK3, HO_7, HB⟩ := hrel
      have hl7_3 := (Kd.S_reads' HO_7.out).1
      rw [hl7_3] at HO_7
      (try simp only [hl7_3])
      cases gk with
      | zero => exact absurd HA.out (by simp [poly_Split.l1])
      | succ k3 =>
       have H := HA.out
       clear HA
       simp only [poly_Split.l1] at H
       by_cases c32 : x50_3 < (x7_2.length : Int)
       ·rw [if_pos c32] at H
        have c32b0 := decide_eq_true c32
        (try (have c32b0r0 := c32b0; simp only [hl7_3] at c32b0r0))
        clear c32
        obtain ⟨c33, H⟩ : (0 ≤ x50_3) ∧ _ := it_ H
        have c33b0 := decide_eq_true c33
        clear c33
        obtain ⟨c34, H⟩ : (x50_3 < (x7_3.length : Int)) ∧ _ := it_ H
        have c34b0 := decide_eq_true c34
        clear c34
        revert H
        refine bd_ fun t332 A35 H => ?_
        obtain ⟨y335, hy335⟩ : ∃ y_ : List (List Int), y_ = (x7_3.set (x50_3 : Int).toNat t332) := ⟨_, rfl⟩
        replace H : (poly_Split.l1 k3 y335 (x7_2.length : Int) (wrap64 (x50_3 + 1))) = some r := by first | (rw [hy335]; with_reducible exact H) | (have H2_ := (Option.bind_some _ _).symm.trans H; rw [hy335]; with_reducible exact H2_) | (have H2_ := (Option.bind_some _ _).symm.trans H; with_reducible exact H2_) | with_reducible exact H | (rw [hy335]; exact H) | exact H
        have Ny335 := ak hy335
        clear hy335
        have H' := ak H
        clear H
        have p331 : 0 ≤ (x50_3 : Int) := od_
        have q331 : x50_3 < (x7_3.length : Int) := od_
        obtain ⟨ad331, A331_0, c331_0, e331, hx331_0, hl331_0, hi331_0⟩ := at_L1 (Kd.S_reads' HO_7.out).2.2 x50_3 p331 q331
        cases e331
        obtain ⟨ce331, hce331, hMe331, hcc331⟩ := Kd.S_get HO_7.out [] x50_3 p331 (by first | exact q331 | exact od_ | (have e_ := (Kd.S_reads' HO_7.out).1; omega))
        obtain ⟨ve331_0, rfl, ge331_0⟩ := hMe331
        have hv331_0 := hcc331 0 _ rfl
        rw [Nat.add_zero, show ((Kd.slice 32 (Kd.int .u64))).sz = 1 from rfl, Nat.mul_one] at hv331_0
        replace hv331_0 := Option.some.inj (hv331_0.symm.trans hx331_0)
        rw [hv331_0] at ge331_0
        have HL331_0 := ak (show Kd.R (Kd.int .u64) 32 _ _ _ _ (rd_L1 x7_3 x50_3) from ge331_0)
        clear hv331_0 ge331_0
        have HX331_0 := ak hx331_0
        clear hcc331 hce331
        have HR331_0 := ak hi331_0
        have HC331_0 := ak hl331_0
        clear hi331_0 hl331_0
        replace p331 := eq_true p331
        replace q331 := eq_true q331
        obtain ⟨go37, co37, eo37, gb37, gl37, cl37, HG37⟩ := Kd.S_form HO_7.out (by have h_ : (x50_3 : Int) < ((x7_3.length : Int) : Int) := od_; have h2_ : 0 ≤ (x50_3 : Int) := od_; omega)
        (first | cases eo37 | (injection eo37 with ea_ en_ ec_; (first | subst ea_ | (injection ea_ with ea_; subst ea_)); subst ec_; clear en_))
        have GB37 := ak gb37
        have GG37 := ak HG37
        clear gb37 gl37 HG37
        (first | simp only [add_plain] at hx331_0 | skip)
        obtain ⟨oki37, ce37, hcl37, hM37, hcc37, _, _, hH37⟩ := Kd.S_elem HO_7.out [] (x50_3 : Int) od_ (by have h_ : (x50_3 : Int) < ((x7_3.length : Int) : Int) := od_; first | exact h_ | (have e_ := (Kd.S_reads' HO_7.out).1; omega) | simpa using h_)
        obtain ⟨ve37_0, rfl, ge37_0⟩ := hM37
        have hv37 := hcc37 0 _ rfl
        have hX37 := HX331_0.out
        (try simp only [add_plain] at hX37)
        (try simp only [Nat.add_zero] at hv37)
        (try rw [show ((Kd.slice 32 (Kd.int .u64))).sz = 1 from rfl, Nat.mul_one] at hv37)
        replace hv37 := Option.some.inj (hv37.symm.trans hX37)
        subst hv37
        clear hX37 hcc37 hcl37
        have UU37 := ak (show Kd.R (Kd.int .u64) 32 _ w.heap.size oki37 (.slice A331_0 (rd_L1 x7_3 x50_3).length c331_0) (rd_L1 x7_3 x50_3) from ge37_0)
        have HH37 := ak hH37
        have HN37 := ak (Kd.S_reads' HO_7.out).1
        clear hH37 ge37_0
        go_wp2_with (first | (go_at_call 56; (with_reducible refine (poly_trim.callsB k3 (fun k_ => oki37 k_ ∨ ((fun _ => True)) k_ ∧ wr.heap.size ≤ k_) w.heap.size (.slice A331_0 (rd_L1 x7_3 x50_3).length c331_0) (rd_L1 x7_3 x50_3) t332 _ ?aO A35.out).mono ?_); (case aO => exact (R_mono (rU_ UU37.out) (fun _ hk => .inl hk))); rintro e w38 ⟨v333, rfl, ho, hw_⟩; have hb : Below w.heap.size w w38 := (by rw [hw_]; exact (bU_ HB.out)); have hg : World.grownBy wr w38 (.slice A331_0 (rd_L1 x7_3 x50_3).length c331_0 : Value).ownBlock := (by rw [hw_]; exact World.grownBy.refl _ _); have hat := hw_; clear hw_; refine nx3_ (hb) (Kd.H_grown (Kd.H_widen (by repeat (first | exact HH37.out | refine Kd.H_alloc ?_ _ | refine Kd.H_drewN ?_ _ | refine Kd.H_drew ?_))) hg (fun k_ e_ => .inl (UU37.out.1 k_ e_))) (ho) ?_; clear HB HH37 HO_7 UU37 HL331_0; intro HB HH37 HO334; clear ho hb hg hat; have p36 : 0 ≤ (x50_3 : Int) := od_; have q36 : (x50_3 : Int) < ((x7_3.length : Int) : Int) := od_; replace p36 := eq_true p36; replace q36 := eq_true q36; obtain ⟨Ao41, co41, eo41⟩ := R_slice HO334.out; subst eo41; obtain ⟨_, _, hraw39, _, _, hcc39, _⟩ := Kd.H_raw HH37.out od_ (by have h_ : (x50_3 : Int) < ((x7_3.length : Int) : Int) := od_; first | exact h_ | (have e_ := (HN37.out); omega) | simpa using h_); obtain ⟨_, hfr39⟩ := Kd.H_at HH37.out od_ (by have h_ : (x50_3 : Int) < ((x7_3.length : Int) : Int) := od_; first | exact h_ | (have e_ := (HN37.out); omega) | simpa using h_); have hx39_0 := hcc39 0 _ rfl; have hf39_0 := hfr39 0; (try simp only [Nat.add_zero] at hx39_0 hf39_0); (try rw [show ((Kd.slice 32 (Kd.int .u64))).sz = 1 from rfl, Nat.mul_one] at hx39_0); (try rw [show ((Kd.slice 32 (Kd.int .u64))).sz = 1 from rfl, Nat.mul_one] at hf39_0); have HP39 := Kd.S_seg0 HH37.out od_ (by have h_ : (x50_3 : Int) < ((x7_3.length : Int) : Int) := od_; first | exact h_ | (have e_ := (HN37.out); omega) | simpa using h_) (seg := [.slice Ao41 t332.length co41]) (j := 0) (show 1 ≤ 1 from by decide) (x' := t332) (Kd.M_row HO334.out) (fun _ hk => hk); (try simp only [show ((Kd.slice 32 (Kd.int .u64))).sz = 1 from rfl, Nat.mul_one, Nat.add_zero] at HP39); clear hcc39 hfr39) | ((with_reducible refine gate_store (t := 22) (p := 60) rfl ?_); refine store_event (t := 22) (p := 60) (v := ?vo_w40) (w1 := (w38.setCell ⟨go37, (x50_3 : Int).toNat, none⟩ (.slice Ao41 t332.length co41))) ?hg ?ho ?hn ?hr ?_; (case ho => rfl); (case hg => rfl); (case hn => rfl); (case hr => first | (go_simp; done) | (go_simp; rfl)); intro w40 hw; have hg : w38.grownBy w40 (some go37) := (by rw [hw]; exact HP39.2); have hp_ : Kd.S (Kd.slice 32 (Kd.int .u64)) 22 w40 w.heap.size (fun _ => True) (.slice (some ⟨go37, 0, none⟩) x7_3.length co31) y335 := (by rw [hw, Ny335.out]; exact HP39.1); clear HP39; refine nx2_ ((by rw [hw]; exact below_set HB.out GB37.out : Below w.heap.size w w40)) (hp_) ?_; clear HB HO334 HH37; intro HB HO_7; clear hg hw hp_ hraw39))
        (try simp only [← hl7_3])
        go_roundg k3
        case measure => have := HJ3.out; have := HK2.out; have := HK3.out; omega
        case rel => exact ⟨(y335), (wrap64 (x50_3 + 1)), gb_, H', ⟨by have := HJ3.out; have := HK2.out; have := HK3.out; omega⟩, ⟨by (try simp only [hl7_3]); (with_reducible repeat (first | apply Kd.S_alloc | apply Kd.S_drewN | apply Kd.S_drew)); exact HO_7.out⟩, ⟨bU_ HB.out⟩⟩
       rw [if_neg c32] at H
       have c32b0 := decide_eq_false c32
       (try (have c32b0r0 := c32b0; simp only [hl7_3] at c32b0r0))
       clear c32
       obtain rfl := Option.some.inj H
       go_wp2
       go_ret
       exact ⟨_, eW_, by (with_reducible repeat (first | apply Kd.S_alloc | apply Kd.S_drewN | apply Kd.S_drew)); exact HO_7.out, bU_ HB.out⟩

mutual
def poly_Join.l0 : Nat → Int → List (List Int) → Int → Int → List (List Int) → Int → Int → Option (List Int)
 | 0, _, _, _, _, _, _, _ => none
 | k + 1, x0, x1, x5, x6, x18, x19, x20 => if x20 < x19 then (if 0 ≤ x20 then (if x20 < (x18.length : Int) then (poly_Join.l0 k x0 x1 x5 (mx x6 ((rd_L1 x18 x20).length : Int)) x18 x19 (wrap64 (x20 + 1))) else (none)) else (none)) else (if 0 ≤ (wrap64 (x6 * x5)) then (if (wrap64 (x6 * x5) : Int).toNat ≤ 35184372088832 then (poly_Join.l1 k x0 x5 (List.replicate (wrap64 (x6 * x5) : Int).toNat 0) x1 (x1.length : Int) 0) else (none)) else (none))
def poly_Join.l1 : Nat → Int → Int → List Int → List (List Int) → Int → Int → Option (List Int)
 | 0, _, _, _, _, _, _ => none
 | k + 1, x0, x5, x9, x33, x34, x35 => if x35 < x34 then (if 0 ≤ x35 then (if x35 < (x33.length : Int) then (poly_Join.l2 k x0 x5 x9 x35 x33 x34 x35 (rd_L1 x33 x35) ((rd_L1 x33 x35).length : Int) 0) else (none)) else (none)) else ((poly_Normal.f k x0 x9).bind fun t340 => (some t340))
def poly_Join.l2 : Nat → Int → Int → List Int → Int → List (List Int) → Int → Int → List Int → Int → Int → Option (List Int)
 | 0, _, _, _, _, _, _, _, _, _, _ => none
 | k + 1, x0, x5, x9, x10, x33, x34, x35, x40, x41, x42 => if x42 < x41 then (if 0 ≤ x42 then (if x42 < (x40.length : Int) then (if 0 ≤ (wrap64 ((wrap64 (x42 * x5)) + x10)) then (if (wrap64 ((wrap64 (x42 * x5)) + x10)) < (x9.length : Int) then (poly_Join.l2 k x0 x5 (x9.set ((wrap64 ((wrap64 (x42 * x5)) + x10)) : Int).toNat (rd x40 x42)) x10 x33 x34 x35 x40 x41 (wrap64 (x42 + 1))) else (none)) else (none)) else (none)) else (none)) else (poly_Join.l1 k x0 x5 x9 x33 x34 (wrap64 (x35 + 1)))
end
def poly_Join.f (k : Nat) (a0 : Int) (l1 : List (List Int)) : Option (List Int) := if (l1.length : Int) > 64 then (some ([] : List Int)) else (poly_Join.l0 k a0 l1 (l1.length : Int) 0 l1 (l1.length : Int) 0)
theorem poly_Join.mono_l : ∀ k, (∀ y0 y1 y2 y3 y4 y5 y6, LeO (poly_Join.l0 k y0 y1 y2 y3 y4 y5 y6) (poly_Join.l0 (k + 1) y0 y1 y2 y3 y4 y5 y6)) ∧ (∀ y0 y1 y2 y3 y4 y5, LeO (poly_Join.l1 k y0 y1 y2 y3 y4 y5) (poly_Join.l1 (k + 1) y0 y1 y2 y3 y4 y5)) ∧ (∀ y0 y1 y2 y3 y4 y5 y6 y7 y8 y9, LeO (poly_Join.l2 k y0 y1 y2 y3 y4 y5 y6 y7 y8 y9) (poly_Join.l2 (k + 1) y0 y1 y2 y3 y4 y5 y6 y7 y8 y9))
 | 0 => ⟨fun _ _ _ _ _ _ _ r h => by simp [poly_Join.l0] at h, fun _ _ _ _ _ _ r h => by simp [poly_Join.l1] at h, fun _ _ _ _ _ _ _ _ _ _ r h => by simp [poly_Join.l2] at h⟩
 | k + 1 => by
  obtain ⟨ih0, ih1, ih2⟩ := poly_Join.mono_l k
  refine ⟨?_, ?_, ?_⟩
  ·intro y0 y1 y2 y3 y4 y5 y6
   unfold poly_Join.l0
   with_reducible repeat' first | apply ih0 | apply ih1 | apply ih2 | apply poly_Normal.mono | exact LeO.refl _ | exact LeO.none _ | refine LeO.ite ?_ ?_ | refine LeO.bind ?_ (fun _ => ?_)
  ·intro y0 y1 y2 y3 y4 y5
   unfold poly_Join.l1
   with_reducible repeat' first | apply ih0 | apply ih1 | apply ih2 | apply poly_Normal.mono | exact LeO.refl _ | exact LeO.none _ | refine LeO.ite ?_ ?_ | refine LeO.bind ?_ (fun _ => ?_)
  intro y0 y1 y2 y3 y4 y5 y6 y7 y8 y9
  unfold poly_Join.l2
  with_reducible repeat' first | apply ih0 | apply ih1 | apply ih2 | apply poly_Normal.mono | exact LeO.refl _ | exact LeO.none _ | refine LeO.ite ?_ ?_ | refine LeO.bind ?_ (fun _ => ?_)
theorem poly_Join.mono : ∀ a0 a1 k, LeO (poly_Join.f k a0 a1) (poly_Join.f (k + 1) a0 a1) := by
 intro a0 a1 k
 obtain ⟨ih0, ih1, ih2⟩ := poly_Join.mono_l k
 unfold poly_Join.f
 with_reducible repeat' first | apply ih0 | apply ih1 | apply ih2 | apply poly_Normal.mono | exact LeO.refl _ | exact LeO.none _ | refine LeO.ite ?_ ?_ | refine LeO.bind ?_ (fun _ => ?_)
set_option maxHeartbeats 8000000 in
set_option maxRecDepth 100000 in
theorem poly_Join.calls (k : Nat) (a0 : Int) (A1 : Option Addr) (c1 : Nat) (l1 : List (List Int)) (r : List Int) (w : World) (hG : Fld w) (hr1 : Kd.C (Kd.slice 32 (Kd.int .u64)) w A1 l1.length l1) (hc1 : l1.length ≤ c1) (h : poly_Join.f k a0 l1 = some r) :
  Calls Tryd.prog 42 #[.int .i64 a0, .slice A1 l1.length c1] w fun e w' => ∃ v0_ : Value, e = .returned (v0_) ∧ Kd.R (Kd.int .u64) 32 w' w.heap.size (fun _ => True) v0_ r ∧ Below w.heap.size w w' := by
 have HG := ak hG
 clear hG
 have HR1 := ak hr1
 have HC1 := ak hc1
 clear hr1 hc1
 have HB := ak (Below.refl w.heap.size w)
 have H := h
 clear h
 unfold poly_Join.f at H
 by_cases c3 : (l1.length : Int) > 64
 ·rw [if_pos c3] at H
  have c3b0 : decide (64 < (l1.length : Int)) = true := decide_eq_true c3
  have c3b1 : decide (64 < l1.length) = true := decide_eq_true (by omega)
  clear c3
  obtain rfl := Option.some.inj H
  go_enter Tryd.func42, Tryd.ntmps42
  go_wp2
  go_ret
  exact ⟨_, eW_, by first | exact Kd.R_nil _ _ _ _ _ | exact Kd.N_nil _ _ _ _ _ | exact Kd.V_nil _ _ _ _ _ | exact Kd.Q_nil _ _ _ _ _ | exact Kd.S_nil _ _ _ _ _, bU_ HB.out⟩
 rw [if_neg c3] at H
 have c3b0 : decide (64 < (l1.length : Int)) = false := decide_eq_false c3
 have c3b1 : decide (64 < l1.length) = false := decide_eq_false (by omega)
 clear c3
 have H' := ak H
 clear H
 go_enter Tryd.func42, Tryd.ntmps42
 go_wp2
 go_loopg [6, 20] k (fun kq v6 v20 w' => ∃ (x6_1 : Int) (x20_1 : Int), v6 = .int .i64 x6_1 ∧ v20 = .int .i64 x20_1 ∧ Aside0 (poly_Join.l0 kq a0 l1 (l1.length : Int) x6_1 l1 (l1.length : Int) x20_1 = some r) ∧ Aside0 (kq ≤ k) ∧ Aside0 (Below w.heap.size w w'))
 case atStart => exact ⟨(0), (0), gb_, gb_, H', ⟨Nat.le_refl _⟩, ⟨bU_ HB.out⟩⟩
 case round =>
  clear H'
  (try clear c1); (try clear p2); (try clear c3); (try clear c3b0); (try clear c3b1)
  obtain ⟨x6_1, x20_1, rfl, rfl, HA, HK1, HB⟩ := hrel
  cases gk with
  | zero => exact absurd HA.out (by simp [poly_Join.l0])
  | succ k1 =>
   have H := HA.out
   clear HA
   simp only [poly_Join.l0] at H
   by_cases c4 : x20_1 < (l1.length : Int)
   ·rw [if_pos c4] at H
    have c4b0 := decide_eq_true c4
    clear c4
    obtain ⟨c5, H⟩ : (0 ≤ x20_1) ∧ _ := it_ H
    have c5b0 := decide_eq_true c5
    clear c5
    obtain ⟨c6, H⟩ : (x20_1 < (l1.length : Int)) ∧ _ := it_ H
    have c6b0 := decide_eq_true c6
    clear c6
    obtain ⟨ji7, hji7⟩ : ∃ j_ : Int, (mx x6_1 ((rd_L1 l1 x20_1).length : Int)) = j_ := ⟨_, rfl⟩
    first | rw [hji7] at H | simp only [hji7] at H
    have hji7_ : (if x6_1 < ((rd_L1 l1 x20_1).length : Int) then ((rd_L1 l1 x20_1).length : Int) else x6_1) = ji7 := hji7
    have H' := ak H
    clear H
    have p336 : 0 ≤ (x20_1 : Int) := od_
    have q336 : x20_1 < (l1.length : Int) := od_
    obtain ⟨ad336, A336_0, c336_0, e336, hx336_0, hl336_0, hi336_0⟩ := at_L1 HR1.out x20_1 p336 q336
    cases e336
    replace hx336_0 := (HB.out.cell (World.block_lt_of_cell? w _ hx336_0)).trans hx336_0
    have HR336_0 := ak hi336_0
    have HC336_0 := ak hl336_0
    clear hi336_0 hl336_0
    replace p336 := eq_true p336
    replace q336 := eq_true q336
    go_wp2
    go_roundg k1
    case measure => have := HK1.out; omega
    case rel => exact ⟨(ji7), (wrap64 (x20_1 + 1)), (by first | rfl | (simp; done) | (simp only [← hji7] <;> (first | rfl | simp)) | (simp [*]; done)), gb_, H', ⟨by have := HK1.out; omega⟩, ⟨bU_ HB.out⟩⟩
   rw [if_neg c4] at H
   have c4b0 := decide_eq_false c4
   clear c4
   obtain ⟨ji8, hji8⟩ : ∃ j_ : Int, (wrap64 (x6_1 * (l1.length : Int))) = j_ := ⟨_, rfl⟩
   first | rw [hji8] at H | simp only [hji8] at H
   have hji8w : (IntKind.i64.wrap (x6_1 * (l1.length : Int))) = ji8 := (i64_w _).trans hji8
   obtain ⟨c9, H⟩ : (0 ≤ (ji8)) ∧ _ := it_ H
   have c9b0 := eq_true c9
   have c9b1 := decide_eq_true c9
   clear c9
   obtain ⟨c10, H⟩ : ((ji8 : Int).toNat ≤ 35184372088832) ∧ _ := it_ H
   have c10b0 := eq_true c10
   have c10b1 := decide_eq_true c10
   clear c10
   obtain ⟨y337, hy337⟩ : ∃ y_ : List Int, y_ = (List.replicate (ji8 : Int).toNat 0) := ⟨_, rfl⟩
   first | rw [Option.bind_some, ← hy337] at H | rw [← hy337] at H
   have Ny337 := ak hy337
   clear hy337
   have H' := ak H
   clear H
   go_wp2_with (first | ((with_reducible refine gate_dst (N := 32) rfl ?_); refine R_make (Kd.int .u64) _ 32 rfl (N := 32) rfl 22 _ _ rfl ji8 ?hx ?hy Tryd.underlying22 (.int .u64 0) 8 info32 rfl (by decide) (by omega) 0 (ok := fun _ => True) (okp := fun _ => True) rfl (fun _ hk => hk) trivial od_ (Nat.le_trans (Nat.mul_le_mul_right _ (od_ : ji8.toNat ≤ 35184372088832)) (by omega)) (Below.refl _ _) (Nat.le_refl _) ?_; (case hx => first | rfl | (simp only [hji8]; rfl)); (case hy => first | rfl | (simp only [hji8]; rfl)); intro v338 w11 ho12 hb hg_ hnew_; clear hg_ hnew_; (first | rw [← Ny337.out] at ho12 | (simp only [Int.reduceToNat] at ho12; rw [← Ny337.out] at ho12)); refine nx2_ (R_lower ho12 (below_size (bU_ HB.out))) (below_step (bU_ HB.out) hb) ?_; clear HB; intro HO339 HB; clear hb ho12))
   go_loopg [35] k1 (fun kq v35 w' => ∃ (x9_2 : List Int) (x35_2 : Int), v35 = .int .i64 x35_2 ∧ Aside0 (poly_Join.l1 kq a0 (l1.length : Int) x9_2 l1 (l1.length : Int) x35_2 = some r) ∧ Aside0 (kq ≤ k1) ∧ Aside0 (Kd.R (Kd.int .u64) 32 w' w.heap.size (fun _ => True) v338 x9_2) ∧ Aside0 (Below w.heap.size w w'))
   case atStart => exact ⟨(y337), (0), gb_, H', ⟨Nat.le_refl _⟩, ⟨rU_ HO339.out⟩, ⟨bU_ HB.out⟩⟩
   case round =>
    clear H'
    (try clear c1); (try clear p2); (try clear c3); (try clear c3b0); (try clear c3b1); (try clear p3); (try clear q3); (try clear hx3); (try clear c4); (try clear c4b0); (try clear c5); (try clear c5b0); (try clear c6); (try clear c6b0); (try clear p6); (try clear c9); (try clear c9b0); (try clear c9b1); (try clear c10); (try clear c10b0); (try clear c10b1); (try clear hx336_0); (try clear p336); (try clear q336)
    obtain ⟨x9_2, x35_2, rfl, HA, HK2, HO_9, HB⟩ := hrel
    cases gk with
    | zero => exact absurd HA.out (by simp [poly_Join.l1])
    | succ k2 =>
     have H := HA.out
     clear HA
     simp only [poly_Join.l1] at H
     by_cases c13 : x35_2 < (l1.length : Int)
     ·rw [if_pos c13] at H
      have c13b0 := decide_eq_true c13
      clear c13
      obtain ⟨c14, H⟩ : (0 ≤ x35_2) ∧ _ := it_ H
      have c14b0 := decide_eq_true c14
      clear c14
      obtain ⟨c15, H⟩ : (x35_2 < (l1.length : Int)) ∧ _ := it_ H
      have c15b0 := decide_eq_true c15
      clear c15
      have H' := ak H
      clear H
      have p343 : 0 ≤ (x35_2 : Int) := od_
      have q343 : x35_2 < (l1.length : Int) := od_
      obtain ⟨ad343, A343_0, c343_0, e343, hx343_0, hl343_0, hi343_0⟩ := at_L1 HR1.out x35_2 p343 q343
      cases e343
      replace hx343_0 := (HB.out.cell (World.block_lt_of_cell? w _ hx343_0)).trans hx343_0
      have HR343_0 := ak hi343_0
      have HC343_0 := ak hl343_0
      clear hi343_0 hl343_0
      replace p343 := eq_true p343
      replace q343 := eq_true q343
      go_wp2
      go_loopg [42] k2 (fun kq v42 w' => ∃ (x9_3 : List Int) (x42_3 : Int), v42 = .int .i64 x42_3 ∧ Aside0 (poly_Join.l2 kq a0 (l1.length : Int) x9_3 x35_2 l1 (l1.length : Int) x35_2 (rd_L1 l1 x35_2) ((rd_L1 l1 x35_2).length : Int) x42_3 = some r) ∧ Aside0 (kq ≤ k2) ∧ Aside0 (Kd.R (Kd.int .u64) 32 w' w.heap.size (fun _ => True) v338 x9_3) ∧ Aside0 (Below w.heap.size w w'))
      case atStart => exact ⟨(x9_2), (0), gb_, H', ⟨Nat.le_refl _⟩, ⟨rU_ HO_9.out⟩, ⟨bU_ HB.out⟩⟩
      case round =>
       clear H'
       (try clear c1); (try clear p2); (try clear c3); (try clear c3b0); (try clear c3b1); (try clear p3); (try clear q3); (try clear hx3); (try clear c4); (try clear c4b0); (try clear c5); (try clear c5b0); (try clear c6); (try clear c6b0); (try clear p6); (try clear c9); (try clear c9b0); (try clear c9b1); (try clear c10); (try clear c10b0); (try clear c10b1); (try clear c13); (try clear c13b0); (try clear c14); (try clear c14b0); (try clear c15); (try clear c15b0); (try clear hx336_0); (try clear hx343_0); (try clear p336); (try clear p343); (try clear q336); (try clear q343)
       obtain ⟨x9_3, x42_3, rfl, HA, HK3, HO_9, HB⟩ := hrel
       cases gk with
       | zero => exact absurd HA.out (by simp [poly_Join.l2])
       | succ k3 =>
        have H := HA.out
        clear HA
        simp only [poly_Join.l2] at H
        by_cases c16 : x42_3 < ((rd_L1 l1 x35_2).length : Int)
        ·rw [if_pos c16] at H
         have c16b0 := decide_eq_true c16
         clear c16
         obtain ⟨c17, H⟩ : (0 ≤ x42_3) ∧ _ := it_ H
         have c17b0 := decide_eq_true c17
         clear c17
         obtain ⟨c18, H⟩ : (x42_3 < ((rd_L1 l1 x35_2).length : Int)) ∧ _ := it_ H
         have c18b0 := decide_eq_true c18
         clear c18
         obtain ⟨ji19, hji19⟩ : ∃ j_ : Int, (wrap64 ((wrap64 (x42_3 * (l1.length : Int))) + x35_2)) = j_ := ⟨_, rfl⟩
         first | rw [hji19] at H | simp only [hji19] at H
         have hji19w : (IntKind.i64.wrap ((wrap64 (x42_3 * (l1.length : Int))) + x35_2)) = ji19 := (i64_w _).trans hji19
         obtain ⟨c20, H⟩ : (0 ≤ (ji19)) ∧ _ := it_ H
         have c20b0 := decide_eq_true c20
         clear c20
         obtain ⟨c21, H⟩ : ((ji19) < (x9_3.length : Int)) ∧ _ := it_ H
         have c21b0 := decide_eq_true c21
         clear c21
         obtain ⟨y345, hy345⟩ : ∃ y_ : List Int, y_ = (x9_3.set ((ji19) : Int).toNat (rd (rd_L1 l1 x35_2) x42_3)) := ⟨_, rfl⟩
         first | rw [Option.bind_some, ← hy345] at H | rw [← hy345] at H
         have Ny345 := ak hy345
         clear hy345
         have H' := ak H
         clear H
         have p344 : 0 ≤ (x42_3 : Int) := od_
         have q344 : x42_3 < ((rd_L1 l1 x35_2).length : Int) := od_
         obtain ⟨ad344, e344, hx344_0⟩ := Kd.at_int HR343_0.out x42_3 p344 q344
         cases e344
         replace hx344_0 := (HB.out.cell (World.block_lt_of_cell? w _ hx344_0)).trans hx344_0
         replace p344 := eq_true p344
         replace q344 := eq_true q344
         have p22 : 0 ≤ ((ji19) : Int) := od_
         have q22 : ((ji19) : Int) < ((x9_3.length : Int) : Int) := od_
         obtain ⟨go22, co22, eo22, gb22, gl22, cl22, HG22⟩ := Kd.R_form HO_9.out (by omega)
         (first | cases eo22 | (injection eo22 with ea_ en_ ec_; (first | subst ea_ | (injection ea_ with ea_; subst ea_)); subst ec_; clear en_))
         have GB22 := ak gb22
         have GG22 := ak HG22
         clear gb22 gl22 HG22
         obtain ⟨hx22_0, hf22_0⟩ := Kd.R_celln 0 HO_9.out ((ji19) : Int) p22 q22
         replace p22 := eq_true p22
         replace q22 := eq_true q22
         have HP23 := Kd.R_putg HO_9.out ((ji19) : Int) (rd (rd_L1 l1 x35_2) x42_3)
         go_wp2_with (first | ((with_reducible refine gate_store (t := 32) (p := 54) rfl ?_); refine store_event (t := 32) (p := 54) (v := ?vo_w24) (w1 := (wr.setCell ⟨go22, ((ji19) : Int).toNat, none⟩ (.int .u64 (rd (rd_L1 l1 x35_2) x42_3)))) ?hg ?ho ?hn ?hr ?_; (case ho => rfl); (case hg => rfl); (case hn => rfl); (case hr => first | (go_simp; done) | (go_simp; rfl)); intro w24 hw; have hg : wr.grownBy w24 (some go22) := (by rw [hw]; exact HP23.2); have hp_ : Kd.R (Kd.int .u64) 32 w24 w.heap.size (fun _ => True) (.slice (some ⟨go22, 0, none⟩) x9_3.length co22) y345 := (by rw [hw, Ny345.out]; exact HP23.1); clear HP23; refine nx2_ (hp_) ((by rw [hw]; exact below_set (HB.out) GB22.out : Below w.heap.size w w24)) ?_; clear HO_9 HB; intro HO_9 HB; clear hg hw hp_))
         go_roundg k3
         case measure => have := HK1.out; have := HK2.out; have := HK3.out; omega
         case rel => exact ⟨(y345), (wrap64 (x42_3 + 1)), gb_, H', ⟨by have := HK1.out; have := HK2.out; have := HK3.out; omega⟩, ⟨rU_ HO_9.out⟩, ⟨bU_ HB.out⟩⟩
        rw [if_neg c16] at H
        have c16b0 := decide_eq_false c16
        clear c16
        have H' := ak H
        clear H
        go_wp2
        go_roundg k3
        case measure => have := HK1.out; have := HK2.out; have := HK3.out; omega
        case rel => exact ⟨(x9_3), (wrap64 (x35_2 + 1)), gb_, H', ⟨by have := HK1.out; have := HK2.out; have := HK3.out; omega⟩, ⟨rU_ HO_9.out⟩, ⟨bU_ HB.out⟩⟩
     rw [if_neg c13] at H
     have c13b0 := decide_eq_false c13
     clear c13
     revert H
     refine bd_ fun t340 A25 H => ?_
     obtain rfl := Option.some.inj H
     obtain ⟨Ao26, co26, eo26⟩ := R_slice HO_9.out
     subst eo26
     go_wp2_with (first | ((with_reducible refine gate_callee (f := 23) rfl ?_); refine gl_ (some 59) Tryd.func23 #[.int .i64 a0, .slice Ao26 x9_2.length co26] ?_; (with_reducible refine (poly_Normal.calls k2 a0 _ _ x9_2 t340 _ ?side1 ?side2 ?side3 A25.out).mono ?_); (case side1 => exact fU_ HG.out HB.out); (case side2 => exact cU_ ((R_reads' HO_9.out).2.2)); (case side3 => exact (R_reads' HO_9.out).2.1); rintro e w27 ⟨v341, rfl, ho0, hb⟩; refine ⟨_, rfl, ?_⟩; refine nx3_ (R_elder' (rU_ HO_9.out) (R_base ho0) hb) (R_lower (R_new' ho0 (R_lt (rU_ HO_9.out))) (below_size (bU_ HB.out))) (below_step (bU_ HB.out) hb) ?_; clear HO_9 HB; intro HO_9 HO342 HB; clear hb ho0))
     go_ret
     exact ⟨_, by first | rfl | (simp [errW_none, errW_some] <;> rfl) | (simp only [← hji8]; first | rfl | (simp [errW_none, errW_some] <;> rfl)) | (simp [*, errW_none, errW_some] <;> rfl), R_mono (rU_ HO342.out) (fun _ hk => trivial), bU_ HB.out⟩

mutual
def attestorlaw03_PolyKnown.j0 : Nat → Option (Bool)
 | 0 => none
 | k + 1 => (poly_Through.f k 0 (([1, 98] : List Int)) (([1, 1] : List Int))).bind fun bt389 => ((poly_Vanish.f k 0 ([] : List Int)).bind fun bt393 => ((poly_Divide.f k 0 (([1] : List Int)) ([] : List Int)).bind fun bt400 => ((poly_Mul.f k 4 ([] : List Int) ([] : List Int)).bind fun bt407 => ((poly_Through.f k 0 (([1] : List Int)) ([] : List Int)).bind fun bt414 => (if 1025 ≤ 35184372088832 then ((poly_Vanish.f k 3 (List.replicate 1025 0)).bind fun bt421 => ((poly_Through.f k 3 (List.replicate 1025 0) (List.replicate 1025 0)).bind fun bt431 => (if bt389.2 = 6 then (if bt393.2 = 0 then ((attestorlaw03_same.f k bt393.1 (([1] : List Int))).bind fun t438 => (if t438 = true then (if bt400.2.2 = 2 then (if bt407.2 = 1 then (if bt414.2 = 1 then (if bt421.2 = 3 then (if bt431.2 = 3 then (attestorlaw03_PolyKnown.j1 k) else (none)) else (none)) else (none)) else (none)) else (none)) else (none))) else (none)) else (none)))) else (none))))))
def attestorlaw03_PolyKnown.j1 : Nat → Option (Bool)
 | 0 => none
 | k + 1 => if 32768 ≤ 35184372088832 then ((some (List.replicate 32768 0 : List Int)).bind fun y439 => (if 32767 < (y439.length : Int) then ((some (y439.set (32767 : Int).toNat 1 : List Int)).bind fun y442 => ((poly_Mul.f k 3 y442 (([0, 1] : List Int))).bind fun bt446 => ((poly_Mul.f k 3 y442 (([5, 0] : List Int))).bind fun bt453 => (if bt446.2 = 3 then (if bt453.2 = 0 then (if (bt453.1.length : Int) = 32768 then (if 32767 < (bt453.1.length : Int) then (if (rd bt453.1 32767) = 5 then ((poly_Split.f k 0 ([] : List Int) 65).bind fun t458 => (if (t458.length : Int) = 0 then ((poly_Split.f k 0 ([] : List Int) 0).bind fun t461 => (if (t461.length : Int) = 0 then ((poly_Split.f k 0 ([] : List Int) 64).bind fun t464 => (if (t464.length : Int) = 64 then (if 65 ≤ 11728124029610 then ((poly_Join.f k 0 (List.replicate 65 [])).bind fun t470 => (if (t470.length : Int) = 0 then ((poly_Degree.f k 9 (([1] : List Int))).bind fun t476 => (if t476 = (-1) then ((poly_Eval.f k 9 (([1] : List Int)) 1).bind fun t480 => (if t480 = 0 then ((attestorlaw03_works.f k).bind fun t481 => (some t481)) else (none))) else (none))) else (none))) else (none)) else (none))) else (none))) else (none))) else (none)) else (none)) else (none)) else (none)) else (none))))) else (none))) else (none)
end
def attestorlaw03_PolyKnown.f (k : Nat)  : Option (Bool) := (poly_Split.f k 0 (([1, 2, 3, 4, 5] : List Int)) 2).bind fun t349 => (if (t349.length : Int) = 2 then (if 0 < (t349.length : Int) then ((attestorlaw03_same.f k (rd_L1 t349 0) (([1, 3, 5] : List Int))).bind fun t356 => (if t356 = true then (if 1 < (t349.length : Int) then ((attestorlaw03_same.f k (rd_L1 t349 1) (([2, 4] : List Int))).bind fun t361 => (if t361 = true then ((poly_Join.f k 0 t349).bind fun t362 => ((attestorlaw03_same.f k t362 (([1, 2, 3, 4, 5] : List Int))).bind fun t368 => (if t368 = true then ((poly_Normal.f k 0 (([98, 0, 97] : List Int))).bind fun t372 => ((attestorlaw03_same.f k t372 (([1] : List Int))).bind fun t378 => (if t378 = true then ((poly_Degree.f k 0 (([5] : List Int))).bind fun t382 => (if t382 = 0 then (attestorlaw03_PolyKnown.j0 k) else (none))) else (none)))) else (none)))) else (none))) else (none)) else (none))) else (none)) else (none))
def attestorlaw03_PolyKnown.T10 : Bool × List (List Nat × List Nat) := (true, [([], []), ([], []), ([0, 1], [0, 1]), ([2], [2]), ([3], [3]), ([3], [3]), ([4, 2, 0, 1, 2, 3, 4], [4]), ([5, 6, 0, 1, 2, 3, 4, 5, 6], [5])])
def attestorlaw03_PolyKnown.B10 : List Nat := [0, 0, 3, 7, 15, 15, 31, 127]
theorem attestorlaw03_PolyKnown.tab10 : rtab .any (opsOf Tryd.f9 10) = attestorlaw03_PolyKnown.T10 := by kernel_rfl
theorem attestorlaw03_PolyKnown.bits10 : waitsOk attestorlaw03_PolyKnown.T10.2 attestorlaw03_PolyKnown.B10 = true := by kernel_rfl
theorem attestorlaw03_PolyKnown.j1z : attestorlaw03_PolyKnown.j1 0 = none := by kernel_rfl
theorem attestorlaw03_PolyKnown.j1s (k : Nat) : attestorlaw03_PolyKnown.j1 (k + 1) = (if 32768 ≤ 35184372088832 then ((some (List.replicate 32768 0 : List Int)).bind fun y439 => (if 32767 < (y439.length : Int) then ((some (y439.set (32767 : Int).toNat 1 : List Int)).bind fun y442 => ((poly_Mul.f k 3 y442 (([0, 1] : List Int))).bind fun bt446 => ((poly_Mul.f k 3 y442 (([5, 0] : List Int))).bind fun bt453 => (if bt446.2 = 3 then (if bt453.2 = 0 then (if (bt453.1.length : Int) = 32768 then (if 32767 < (bt453.1.length : Int) then (if (rd bt453.1 32767) = 5 then ((poly_Split.f k 0 ([] : List Int) 65).bind fun t458 => (if (t458.length : Int) = 0 then ((poly_Split.f k 0 ([] : List Int) 0).bind fun t461 => (if (t461.length : Int) = 0 then ((poly_Split.f k 0 ([] : List Int) 64).bind fun t464 => (if (t464.length : Int) = 64 then (if 65 ≤ 11728124029610 then ((poly_Join.f k 0 (List.replicate 65 [])).bind fun t470 => (if (t470.length : Int) = 0 then ((poly_Degree.f k 9 (([1] : List Int))).bind fun t476 => (if t476 = (-1) then ((poly_Eval.f k 9 (([1] : List Int)) 1).bind fun t480 => (if t480 = 0 then ((attestorlaw03_works.f k).bind fun t481 => (some t481)) else (none))) else (none))) else (none))) else (none)) else (none))) else (none))) else (none))) else (none)) else (none)) else (none)) else (none)) else (none))))) else (none))) else (none)) := by kernel_rfl
theorem attestorlaw03_PolyKnown.j1n {r : Bool} {P : Prop} (h : attestorlaw03_PolyKnown.j1 0 = some r) : P := by rw [attestorlaw03_PolyKnown.j1z] at h; exact nomatch h
set_option maxHeartbeats 100000000 in
set_option maxRecDepth 100000 in
theorem attestorlaw03_PolyKnown.calls (k : Nat)  (r : Bool) (w : World) (hG : Fld w) (h : attestorlaw03_PolyKnown.f k  = some r) :
  Calls Tryd.prog 9 #[] w fun e w' => e = .returned (.bool r) ∧ Below w.heap.size w w' := by
 have HG := ak hG
 clear hG
 have HB := ak (Below.refl w.heap.size w)
 have H := h
 clear h
 unfold attestorlaw03_PolyKnown.f at H
 obtain ⟨y346, hy346⟩ : ∃ y_ : List Int, y_ = (([1, 2, 3, 4, 5] : List Int)) := ⟨_, rfl⟩
 replace H : ((poly_Split.f k 0 y346 2).bind fun t349 => (if (t349.length : Int) = 2 then (if 0 < (t349.length : Int) then ((attestorlaw03_same.f k (rd_L1 t349 0) (([1, 3, 5] : List Int))).bind fun t356 => (if t356 = true then (if 1 < (t349.length : Int) then ((attestorlaw03_same.f k (rd_L1 t349 1) (([2, 4] : List Int))).bind fun t361 => (if t361 = true then ((poly_Join.f k 0 t349).bind fun t362 => ((attestorlaw03_same.f k t362 (([1, 2, 3, 4, 5] : List Int))).bind fun t368 => (if t368 = true then ((poly_Normal.f k 0 (([98, 0, 97] : List Int))).bind fun t372 => ((attestorlaw03_same.f k t372 (([1] : List Int))).bind fun t378 => (if t378 = true then ((poly_Degree.f k 0 (([5] : List Int))).bind fun t382 => (if t382 = 0 then (attestorlaw03_PolyKnown.j0 k) else (none))) else (none)))) else (none)))) else (none))) else (none)) else (none))) else (none)) else (none))) = some r := by first | (rw [hy346]; with_reducible exact H) | (have H2_ := (Option.bind_some _ _).symm.trans H; rw [hy346]; with_reducible exact H2_) | (have H2_ := (Option.bind_some _ _).symm.trans H; with_reducible exact H2_) | with_reducible exact H | (rw [hy346]; exact H) | exact H
 have Ny346 := ak hy346
 clear hy346
 revert H
 refine bd_ fun t349 A1 H => ?_
 obtain ⟨c2, H⟩ : ((t349.length : Int) = 2) ∧ _ := it_ H
 have c2b0 := beq_iff_eq.mpr c2
 have c2b1 := bne_eq_false_iff_eq.mpr c2
 clear c2
 obtain ⟨c3, H⟩ : (0 < (t349.length : Int)) ∧ _ := it_ H
 have c3b0 := decide_eq_true c3
 have c3b1 : decide (0 < t349.length) = true := decide_eq_true (by omega)
 clear c3
 obtain ⟨y353, hy353⟩ : ∃ y_ : List Int, y_ = (([1, 3, 5] : List Int)) := ⟨_, rfl⟩
 replace H : ((attestorlaw03_same.f k (rd_L1 t349 0) y353).bind fun t356 => (if t356 = true then (if 1 < (t349.length : Int) then ((attestorlaw03_same.f k (rd_L1 t349 1) (([2, 4] : List Int))).bind fun t361 => (if t361 = true then ((poly_Join.f k 0 t349).bind fun t362 => ((attestorlaw03_same.f k t362 (([1, 2, 3, 4, 5] : List Int))).bind fun t368 => (if t368 = true then ((poly_Normal.f k 0 (([98, 0, 97] : List Int))).bind fun t372 => ((attestorlaw03_same.f k t372 (([1] : List Int))).bind fun t378 => (if t378 = true then ((poly_Degree.f k 0 (([5] : List Int))).bind fun t382 => (if t382 = 0 then (attestorlaw03_PolyKnown.j0 k) else (none))) else (none)))) else (none)))) else (none))) else (none)) else (none))) = some r := by first | (rw [hy353]; with_reducible exact H) | (have H2_ := (Option.bind_some _ _).symm.trans H; rw [hy353]; with_reducible exact H2_) | (have H2_ := (Option.bind_some _ _).symm.trans H; with_reducible exact H2_) | with_reducible exact H | (rw [hy353]; exact H) | exact H
 have Ny353 := ak hy353
 clear hy353
 revert H
 refine bd_ fun t356 A4 H => ?_
 by_cases c5 : t356 = true
 ·subst c5
  rw [if_pos rfl] at H
  obtain ⟨c6, H⟩ : (1 < (t349.length : Int)) ∧ _ := it_ H
  have c6b0 := decide_eq_true c6
  have c6b1 : decide (1 < t349.length) = true := decide_eq_true (by omega)
  clear c6
  obtain ⟨y358, hy358⟩ : ∃ y_ : List Int, y_ = (([2, 4] : List Int)) := ⟨_, rfl⟩
  replace H : ((attestorlaw03_same.f k (rd_L1 t349 1) y358).bind fun t361 => (if t361 = true then ((poly_Join.f k 0 t349).bind fun t362 => ((attestorlaw03_same.f k t362 (([1, 2, 3, 4, 5] : List Int))).bind fun t368 => (if t368 = true then ((poly_Normal.f k 0 (([98, 0, 97] : List Int))).bind fun t372 => ((attestorlaw03_same.f k t372 (([1] : List Int))).bind fun t378 => (if t378 = true then ((poly_Degree.f k 0 (([5] : List Int))).bind fun t382 => (if t382 = 0 then (attestorlaw03_PolyKnown.j0 k) else (none))) else (none)))) else (none)))) else (none))) = some r := by first | (rw [hy358]; with_reducible exact H) | (have H2_ := (Option.bind_some _ _).symm.trans H; rw [hy358]; with_reducible exact H2_) | (have H2_ := (Option.bind_some _ _).symm.trans H; with_reducible exact H2_) | with_reducible exact H | (rw [hy358]; exact H) | exact H
  have Ny358 := ak hy358
  clear hy358
  revert H
  refine bd_ fun t361 A7 H => ?_
  by_cases c8 : t361 = true
  ·subst c8
   rw [if_pos rfl] at H
   revert H
   refine bd_ fun t362 A9 H => ?_
   obtain ⟨y365, hy365⟩ : ∃ y_ : List Int, y_ = (([1, 2, 3, 4, 5] : List Int)) := ⟨_, rfl⟩
   replace H : ((attestorlaw03_same.f k t362 y365).bind fun t368 => (if t368 = true then ((poly_Normal.f k 0 (([98, 0, 97] : List Int))).bind fun t372 => ((attestorlaw03_same.f k t372 (([1] : List Int))).bind fun t378 => (if t378 = true then ((poly_Degree.f k 0 (([5] : List Int))).bind fun t382 => (if t382 = 0 then (attestorlaw03_PolyKnown.j0 k) else (none))) else (none)))) else (none))) = some r := by first | (rw [hy365]; with_reducible exact H) | (have H2_ := (Option.bind_some _ _).symm.trans H; rw [hy365]; with_reducible exact H2_) | (have H2_ := (Option.bind_some _ _).symm.trans H; with_reducible exact H2_) | with_reducible exact H | (rw [hy365]; exact H) | exact H
   have Ny365 := ak hy365
   clear hy365
   revert H
   refine bd_ fun t368 A10 H => ?_
   by_cases c11 : t368 = true
   ·subst c11
    rw [if_pos rfl] at H
    obtain ⟨y369, hy369⟩ : ∃ y_ : List Int, y_ = (([98, 0, 97] : List Int)) := ⟨_, rfl⟩
    replace H : ((poly_Normal.f k 0 y369).bind fun t372 => ((attestorlaw03_same.f k t372 (([1] : List Int))).bind fun t378 => (if t378 = true then ((poly_Degree.f k 0 (([5] : List Int))).bind fun t382 => (if t382 = 0 then (attestorlaw03_PolyKnown.j0 k) else (none))) else (none)))) = some r := by first | (rw [hy369]; with_reducible exact H) | (have H2_ := (Option.bind_some _ _).symm.trans H; rw [hy369]; with_reducible exact H2_) | (have H2_ := (Option.bind_some _ _).symm.trans H; with_reducible exact H2_) | with_reducible exact H | (rw [hy369]; exact H) | exact H
    have Ny369 := ak hy369
    clear hy369
    revert H
    refine bd_ fun t372 A12 H => ?_
    obtain ⟨y375, hy375⟩ : ∃ y_ : List Int, y_ = (([1] : List Int)) := ⟨_, rfl⟩
    replace H : ((attestorlaw03_same.f k t372 y375).bind fun t378 => (if t378 = true then ((poly_Degree.f k 0 (([5] : List Int))).bind fun t382 => (if t382 = 0 then (attestorlaw03_PolyKnown.j0 k) else (none))) else (none))) = some r := by first | (rw [hy375]; with_reducible exact H) | (have H2_ := (Option.bind_some _ _).symm.trans H; rw [hy375]; with_reducible exact H2_) | (have H2_ := (Option.bind_some _ _).symm.trans H; with_reducible exact H2_) | with_reducible exact H | (rw [hy375]; exact H) | exact H
    have Ny375 := ak hy375
    clear hy375
    revert H
    refine bd_ fun t378 A13 H => ?_
    by_cases c14 : t378 = true
    ·subst c14
     rw [if_pos rfl] at H
     obtain ⟨y379, hy379⟩ : ∃ y_ : List Int, y_ = (([5] : List Int)) := ⟨_, rfl⟩
     replace H : ((poly_Degree.f k 0 y379).bind fun t382 => (if t382 = 0 then (attestorlaw03_PolyKnown.j0 k) else (none))) = some r := by first | (rw [hy379]; with_reducible exact H) | (have H2_ := (Option.bind_some _ _).symm.trans H; rw [hy379]; with_reducible exact H2_) | (have H2_ := (Option.bind_some _ _).symm.trans H; with_reducible exact H2_) | with_reducible exact H | (rw [hy379]; exact H) | exact H
     have Ny379 := ak hy379
     clear hy379
     revert H
     refine bd_ fun t382 A15 H => ?_
     have HC16 := ak H
     clear H
     go_enter Tryd.func9, Tryd.ntmps9
     go_upto_if 58 with (first | ((with_reducible refine gate_dst (N := 19) rfl ?_); (try (refine gate_guard (by rfl) ?_; dsimp only)); refine R_lit (Kd.int .u64) _ 32 ?hg (N := 19) ?hd (xs := ([1, 2, 3, 4, 5] : List Int)) (inner := [.int .u64 1, .int .u64 2, .int .u64 3, .int .u64 4, .int .u64 5]) (ok := fun _ => True) (okp := fun _ => True) ?hr ?hp (fun _ hk => hk) trivial (Below.refl _ _) (Nat.le_refl _) (by simp) ?_; (case hd => rfl); (case hg => rfl); (case hr => first | (go_simp; done) | (go_simp; rfl)); (case hp => exact (Reps.one (show Kd.M (Kd.int .u64) _ _ _ 1 [.int .u64 1] from rfl) (Reps.one (show Kd.M (Kd.int .u64) _ _ _ 2 [.int .u64 2] from rfl) (Reps.one (show Kd.M (Kd.int .u64) _ _ _ 3 [.int .u64 3] from rfl) (Reps.one (show Kd.M (Kd.int .u64) _ _ _ 4 [.int .u64 4] from rfl) (Reps.one (show Kd.M (Kd.int .u64) _ _ _ 5 [.int .u64 5] from rfl) (Reps.none _ _))))))); intro v347 w17 ho18 hb hg_ hnew_; clear hg_ hnew_; (first | rw [← Ny346.out] at ho18 | (simp only [Int.reduceToNat] at ho18; rw [← Ny346.out] at ho18)); refine nx2_ (R_lower ho18 (below_size (bU_ HB.out))) (below_step (bU_ HB.out) hb) ?_; clear HB; intro HO348 HB; clear hb ho18; obtain ⟨Ao19, co19, eo19⟩ := R_slice HO348.out; subst eo19) | ((with_reducible refine gate_callee (f := 40) rfl ?_); refine gl_ (some 20) Tryd.func40 #[.int .i64 0, .slice Ao19 y346.length co19, .int .i64 2] ?_; (with_reducible refine (poly_Split.calls k 0 _ _ y346 2 t349 _ ?side1 ?side2 ?side3 A1.out).mono ?_); (case side1 => exact fU_ HG.out HB.out); (case side2 => exact cU_ ((R_reads' HO348.out).2.2)); (case side3 => exact (R_reads' HO348.out).2.1); rintro e w20 ⟨v350, rfl, ho0, hb⟩; refine ⟨_, rfl, ?_⟩; refine nx3_ (R_below (rU_ HO348.out) hb) (Kd.S_lower (Kd.S_new' ho0 (R_lt (rU_ HO348.out))) (below_size (bU_ HB.out))) (below_step (bU_ HB.out) hb) ?_; clear HO348 HB; intro HO348 HO351 HB; clear hb ho0; obtain ⟨Ao21, co21, eo21⟩ := Kd.S_slice HO351.out; subst eo21; have p352 : 0 ≤ (0 : Int) := (by omega); have q352 : 0 < (t349.length : Int) := od_; obtain ⟨ad352, A352_0, c352_0, e352, hx352_0, hl352_0, hi352_0⟩ := at_L1 (Kd.S_reads' HO351.out).2.2 0 p352 q352; cases e352; obtain ⟨ce352, hce352, hMe352, hcc352⟩ := Kd.S_get HO351.out [] 0 p352 (by first | exact q352 | exact od_ | (have e_ := (Kd.S_reads' HO351.out).1; omega)); obtain ⟨ve352_0, rfl, ge352_0⟩ := hMe352; have hv352_0 := hcc352 0 _ rfl; rw [Nat.add_zero, show ((Kd.slice 32 (Kd.int .u64))).sz = 1 from rfl, Nat.mul_one] at hv352_0; replace hv352_0 := Option.some.inj (hv352_0.symm.trans hx352_0); rw [hv352_0] at ge352_0; have HL352_0 := ak (show Kd.R (Kd.int .u64) 32 _ _ _ _ (rd_L1 t349 0) from ge352_0); clear hv352_0 ge352_0; clear hcc352 hce352; have qi352 : (0 < t349.length) = True := eq_true (by omega); (try rw [show ((0 : Int)).toNat = 0 from rfl] at hx352_0); (try rw [Addr.add_zero'] at hx352_0); have HR352_0 := ak hi352_0; have HC352_0 := ak hl352_0; clear hi352_0 hl352_0; replace p352 := eq_true p352; replace q352 := eq_true q352) | ((with_reducible refine gate_dst (N := 28) rfl ?_); (try (refine gate_guard (by rfl) ?_; dsimp only)); refine R_lit (Kd.int .u64) _ 32 ?hg (N := 28) ?hd (xs := ([1, 3, 5] : List Int)) (inner := [.int .u64 1, .int .u64 3, .int .u64 5]) (ok := fun _ => True) (okp := fun _ => True) ?hr ?hp (fun _ hk => hk) trivial (Below.refl _ _) (Nat.le_refl _) (by simp) ?_; (case hd => rfl); (case hg => rfl); (case hr => first | (go_simp; done) | (go_simp; rfl)); (case hp => exact (Reps.one (show Kd.M (Kd.int .u64) _ _ _ 1 [.int .u64 1] from rfl) (Reps.one (show Kd.M (Kd.int .u64) _ _ _ 3 [.int .u64 3] from rfl) (Reps.one (show Kd.M (Kd.int .u64) _ _ _ 5 [.int .u64 5] from rfl) (Reps.none _ _))))); intro v354 w22 ho23 hb hg_ hnew_; clear hg_ hnew_; (first | rw [← Ny353.out] at ho23 | (simp only [Int.reduceToNat] at ho23; rw [← Ny353.out] at ho23)); refine nx6_ (R_elder' (rU_ HO348.out) (R_base ho23) hb) (Kd.S_elder' (by (with_reducible repeat (first | apply Kd.S_alloc | apply Kd.S_drewN | apply Kd.S_drew)); exact HO351.out) (R_base ho23) hb) (R_elder' (rU_ HL352_0.out) (R_base ho23) hb) (R_lower (R_new' (R_new' ho23 (R_lt (rU_ HO348.out))) (R_lt (rU_ HL352_0.out))) (below_size (bU_ HB.out))) (C_below (by repeat (first | (with_reducible exact HR352_0.out) | (with_reducible refine Kd.C_alloc ?_ _) | (with_reducible refine Kd.C_drewN ?_ _) | (with_reducible refine Kd.C_drew ?_) | exact HR352_0.out)) hb) (below_step (bU_ HB.out) hb) ?_; clear HO348 HO351 HL352_0 HR352_0 HB; intro HO348 HO351 HL352_0 HO355 HR352_0 HB; clear hb ho23; obtain ⟨Ao24, co24, eo24⟩ := R_slice HO355.out; subst eo24) | (go_at_call 21; (with_reducible refine (attestorlaw03_same.calls k _ _ (rd_L1 t349 0) _ _ y353 true _ ?side1 ?side2 ?side3 ?side4 A4.out).mono ?_); (case side1 => repeat (first | exact (by repeat (first | (with_reducible exact HR352_0.out) | (with_reducible refine Kd.C_alloc ?_ _) | (with_reducible refine Kd.C_drewN ?_ _) | (with_reducible refine Kd.C_drew ?_) | exact HR352_0.out)) | (with_reducible refine Kd.C_alloc ?_ _) | (with_reducible refine Kd.C_drewN ?_ _) | (with_reducible refine Kd.C_drew ?_))); (case side2 => exact HC352_0.out); (case side3 => exact cU_ ((R_reads' HO355.out).2.2)); (case side4 => exact (R_reads' HO355.out).2.1); rintro e w' ⟨rfl, ⟨nd, rfl⟩⟩; have p357 : 0 ≤ (1 : Int) := (by omega); have q357 : 1 < (t349.length : Int) := od_; obtain ⟨ad357, A357_0, c357_0, e357, hx357_0, hl357_0, hi357_0⟩ := at_L1 (Kd.S_reads' HO351.out).2.2 1 p357 q357; obtain rfl : ad352 = ad357 := (by injection e357); obtain ⟨ce357, hce357, hMe357, hcc357⟩ := Kd.S_get HO351.out [] 1 p357 (by first | exact q357 | exact od_ | (have e_ := (Kd.S_reads' HO351.out).1; omega)); obtain ⟨ve357_0, rfl, ge357_0⟩ := hMe357; have hv357_0 := hcc357 0 _ rfl; rw [Nat.add_zero, show ((Kd.slice 32 (Kd.int .u64))).sz = 1 from rfl, Nat.mul_one] at hv357_0; replace hv357_0 := Option.some.inj (hv357_0.symm.trans hx357_0); rw [hv357_0] at ge357_0; have HL357_0 := ak (show Kd.R (Kd.int .u64) 32 _ _ _ _ (rd_L1 t349 1) from ge357_0); clear hv357_0 ge357_0; clear hcc357 hce357; (try simp only [show (1 : Int).toNat = 1 from rfl, Nat.reduceMul, Nat.reduceEqDiff, Go.Addr.add, ↓reduceIte] at hx357_0); have qi357 : (1 < t349.length) = True := eq_true (by omega); (try rw [show ((1 : Int)).toNat = 1 from rfl] at hx357_0); have HR357_0 := ak hi357_0; have HC357_0 := ak hl357_0; clear hi357_0 hl357_0; replace p357 := eq_true p357; replace q357 := eq_true q357) | ((with_reducible refine gate_dst (N := 36) rfl ?_); (try (refine gate_guard (by rfl) ?_; dsimp only)); refine R_lit (Kd.int .u64) _ 32 ?hg (N := 36) ?hd (xs := ([2, 4] : List Int)) (inner := [.int .u64 2, .int .u64 4]) (ok := fun _ => True) (okp := fun _ => True) ?hr ?hp (fun _ hk => hk) trivial (Below.refl _ _) (Nat.le_refl _) (by simp) ?_; (case hd => rfl); (case hg => rfl); (case hr => first | (go_simp; done) | (go_simp; rfl)); (case hp => exact (Reps.one (show Kd.M (Kd.int .u64) _ _ _ 2 [.int .u64 2] from rfl) (Reps.one (show Kd.M (Kd.int .u64) _ _ _ 4 [.int .u64 4] from rfl) (Reps.none _ _)))); intro v359 w25 ho26 hb hg_ hnew_; clear hg_ hnew_; (first | rw [← Ny358.out] at ho26 | (simp only [Int.reduceToNat] at ho26; rw [← Ny358.out] at ho26)); refine nx9_ (R_elder' (rU_ HO348.out) (R_base ho26) hb) (Kd.S_elder' (by (with_reducible repeat (first | apply Kd.S_alloc | apply Kd.S_drewN | apply Kd.S_drew)); exact HO351.out) (R_base ho26) hb) (R_elder' (rU_ HL352_0.out) (R_base ho26) hb) (R_elder' (rU_ HO355.out) (R_base ho26) hb) (R_elder' (rU_ HL357_0.out) (R_base ho26) hb) (R_lower (R_new' (R_new' (R_new' (R_new' ho26 (R_lt (rU_ HO348.out))) (R_lt (rU_ HL352_0.out))) (R_lt (rU_ HO355.out))) (R_lt (rU_ HL357_0.out))) (below_size (bU_ HB.out))) (C_below (by repeat (first | (with_reducible exact HR352_0.out) | (with_reducible refine Kd.C_alloc ?_ _) | (with_reducible refine Kd.C_drewN ?_ _) | (with_reducible refine Kd.C_drew ?_) | exact HR352_0.out)) hb) (C_below (by repeat (first | (with_reducible exact HR357_0.out) | (with_reducible refine Kd.C_alloc ?_ _) | (with_reducible refine Kd.C_drewN ?_ _) | (with_reducible refine Kd.C_drew ?_) | exact HR357_0.out)) hb) (below_step (bU_ HB.out) hb) ?_; clear HO348 HO351 HL352_0 HO355 HL357_0 HR352_0 HR357_0 HB; intro HO348 HO351 HL352_0 HO355 HL357_0 HO360 HR352_0 HR357_0 HB; clear hb ho26; obtain ⟨Ao27, co27, eo27⟩ := R_slice HO360.out; subst eo27) | (go_at_call 21; (with_reducible refine (attestorlaw03_same.calls k _ _ (rd_L1 t349 1) _ _ y358 true _ ?side1 ?side2 ?side3 ?side4 A7.out).mono ?_); (case side1 => repeat (first | exact (by repeat (first | (with_reducible exact HR357_0.out) | (with_reducible refine Kd.C_alloc ?_ _) | (with_reducible refine Kd.C_drewN ?_ _) | (with_reducible refine Kd.C_drew ?_) | exact HR357_0.out)) | (with_reducible refine Kd.C_alloc ?_ _) | (with_reducible refine Kd.C_drewN ?_ _) | (with_reducible refine Kd.C_drew ?_))); (case side2 => exact HC357_0.out); (case side3 => exact cU_ ((R_reads' HO360.out).2.2)); (case side4 => exact (R_reads' HO360.out).2.1); rintro e w' ⟨rfl, ⟨nd, rfl⟩⟩) | (go_at_call 42; (with_reducible refine (poly_Join.calls k 0 _ _ t349 t362 _ ?side1 ?side2 ?side3 A9.out).mono ?_); (case side1 => exact fU_ HG.out HB.out); (case side2 => exact cU_ ((Kd.S_reads' HO351.out).2.2)); (case side3 => exact (Kd.S_reads' HO351.out).2.1); rintro e w28 ⟨v363, rfl, ho0, hb⟩; refine nx10_ (R_elder' (rU_ HO348.out) (R_base ho0) hb) (Kd.S_elder' (by (with_reducible repeat (first | apply Kd.S_alloc | apply Kd.S_drewN | apply Kd.S_drew)); exact HO351.out) (R_base ho0) hb) (R_elder' (rU_ HL352_0.out) (R_base ho0) hb) (R_elder' (rU_ HO355.out) (R_base ho0) hb) (R_elder' (rU_ HL357_0.out) (R_base ho0) hb) (R_elder' (rU_ HO360.out) (R_base ho0) hb) (R_lower (R_new' (R_new' (R_new' (R_new' (R_new' ho0 (R_lt (rU_ HO348.out))) (R_lt (rU_ HL352_0.out))) (R_lt (rU_ HO355.out))) (R_lt (rU_ HL357_0.out))) (R_lt (rU_ HO360.out))) (below_size (bU_ HB.out))) (C_below (by repeat (first | (with_reducible exact HR352_0.out) | (with_reducible refine Kd.C_alloc ?_ _) | (with_reducible refine Kd.C_drewN ?_ _) | (with_reducible refine Kd.C_drew ?_) | exact HR352_0.out)) hb) (C_below (by repeat (first | (with_reducible exact HR357_0.out) | (with_reducible refine Kd.C_alloc ?_ _) | (with_reducible refine Kd.C_drewN ?_ _) | (with_reducible refine Kd.C_drew ?_) | exact HR357_0.out)) hb) (below_step (bU_ HB.out) hb) ?_; clear HO348 HO351 HL352_0 HO355 HL357_0 HO360 HR352_0 HR357_0 HB; intro HO348 HO351 HL352_0 HO355 HL357_0 HO360 HO364 HR352_0 HR357_0 HB; clear hb ho0) | ((with_reducible refine gate_dst (N := 43) rfl ?_); (try (refine gate_guard (by rfl) ?_; dsimp only)); refine R_lit (Kd.int .u64) _ 32 ?hg (N := 43) ?hd (xs := ([1, 2, 3, 4, 5] : List Int)) (inner := [.int .u64 1, .int .u64 2, .int .u64 3, .int .u64 4, .int .u64 5]) (ok := fun _ => True) (okp := fun _ => True) ?hr ?hp (fun _ hk => hk) trivial (Below.refl _ _) (Nat.le_refl _) (by simp) ?_; (case hd => rfl); (case hg => rfl); (case hr => first | (go_simp; done) | (go_simp; rfl)); (case hp => exact (Reps.one (show Kd.M (Kd.int .u64) _ _ _ 1 [.int .u64 1] from rfl) (Reps.one (show Kd.M (Kd.int .u64) _ _ _ 2 [.int .u64 2] from rfl) (Reps.one (show Kd.M (Kd.int .u64) _ _ _ 3 [.int .u64 3] from rfl) (Reps.one (show Kd.M (Kd.int .u64) _ _ _ 4 [.int .u64 4] from rfl) (Reps.one (show Kd.M (Kd.int .u64) _ _ _ 5 [.int .u64 5] from rfl) (Reps.none _ _))))))); intro v366 w29 ho30 hb hg_ hnew_; clear hg_ hnew_; (first | rw [← Ny365.out] at ho30 | (simp only [Int.reduceToNat] at ho30; rw [← Ny365.out] at ho30)); refine nx11_ (R_elder' (rU_ HO348.out) (R_base ho30) hb) (Kd.S_elder' (by (with_reducible repeat (first | apply Kd.S_alloc | apply Kd.S_drewN | apply Kd.S_drew)); exact HO351.out) (R_base ho30) hb) (R_elder' (rU_ HL352_0.out) (R_base ho30) hb) (R_elder' (rU_ HO355.out) (R_base ho30) hb) (R_elder' (rU_ HL357_0.out) (R_base ho30) hb) (R_elder' (rU_ HO360.out) (R_base ho30) hb) (R_elder' (rU_ HO364.out) (R_base ho30) hb) (R_lower (R_new' (R_new' (R_new' (R_new' (R_new' (R_new' ho30 (R_lt (rU_ HO348.out))) (R_lt (rU_ HL352_0.out))) (R_lt (rU_ HO355.out))) (R_lt (rU_ HL357_0.out))) (R_lt (rU_ HO360.out))) (R_lt (rU_ HO364.out))) (below_size (bU_ HB.out))) (C_below (by repeat (first | (with_reducible exact HR352_0.out) | (with_reducible refine Kd.C_alloc ?_ _) | (with_reducible refine Kd.C_drewN ?_ _) | (with_reducible refine Kd.C_drew ?_) | exact HR352_0.out)) hb) (C_below (by repeat (first | (with_reducible exact HR357_0.out) | (with_reducible refine Kd.C_alloc ?_ _) | (with_reducible refine Kd.C_drewN ?_ _) | (with_reducible refine Kd.C_drew ?_) | exact HR357_0.out)) hb) (below_step (bU_ HB.out) hb) ?_; clear HO348 HO351 HL352_0 HO355 HL357_0 HO360 HO364 HR352_0 HR357_0 HB; intro HO348 HO351 HL352_0 HO355 HL357_0 HO360 HO364 HO367 HR352_0 HR357_0 HB; clear hb ho30; obtain ⟨Ao31, co31, eo31⟩ := R_slice HO364.out; subst eo31; obtain ⟨Ao32, co32, eo32⟩ := R_slice HO367.out; subst eo32) | (go_at_call 21; (with_reducible refine (attestorlaw03_same.calls k _ _ t362 _ _ y365 true _ ?side1 ?side2 ?side3 ?side4 A10.out).mono ?_); (case side1 => exact cU_ ((R_reads' HO364.out).2.2)); (case side2 => exact (R_reads' HO364.out).2.1); (case side3 => exact cU_ ((R_reads' HO367.out).2.2)); (case side4 => exact (R_reads' HO367.out).2.1); rintro e w' ⟨rfl, ⟨nd, rfl⟩⟩) | ((with_reducible refine gate_dst (N := 48) rfl ?_); (try (refine gate_guard (by rfl) ?_; dsimp only)); refine R_lit (Kd.int .u64) _ 32 ?hg (N := 48) ?hd (xs := ([98, 0, 97] : List Int)) (inner := [.int .u64 98, .int .u64 0, .int .u64 97]) (ok := fun _ => True) (okp := fun _ => True) ?hr ?hp (fun _ hk => hk) trivial (Below.refl _ _) (Nat.le_refl _) (by simp) ?_; (case hd => rfl); (case hg => rfl); (case hr => first | (go_simp; done) | (go_simp; rfl)); (case hp => exact (Reps.one (show Kd.M (Kd.int .u64) _ _ _ 98 [.int .u64 98] from rfl) (Reps.one (show Kd.M (Kd.int .u64) _ _ _ 0 [.int .u64 0] from rfl) (Reps.one (show Kd.M (Kd.int .u64) _ _ _ 97 [.int .u64 97] from rfl) (Reps.none _ _))))); intro v370 w33 ho34 hb hg_ hnew_; clear hg_ hnew_; (first | rw [← Ny369.out] at ho34 | (simp only [Int.reduceToNat] at ho34; rw [← Ny369.out] at ho34)); refine nx12_ (R_elder' (rU_ HO348.out) (R_base ho34) hb) (Kd.S_elder' (by (with_reducible repeat (first | apply Kd.S_alloc | apply Kd.S_drewN | apply Kd.S_drew)); exact HO351.out) (R_base ho34) hb) (R_elder' (rU_ HL352_0.out) (R_base ho34) hb) (R_elder' (rU_ HO355.out) (R_base ho34) hb) (R_elder' (rU_ HL357_0.out) (R_base ho34) hb) (R_elder' (rU_ HO360.out) (R_base ho34) hb) (R_elder' (rU_ HO364.out) (R_base ho34) hb) (R_elder' (rU_ HO367.out) (R_base ho34) hb) (R_lower (R_new' (R_new' (R_new' (R_new' (R_new' (R_new' (R_new' ho34 (R_lt (rU_ HO348.out))) (R_lt (rU_ HL352_0.out))) (R_lt (rU_ HO355.out))) (R_lt (rU_ HL357_0.out))) (R_lt (rU_ HO360.out))) (R_lt (rU_ HO364.out))) (R_lt (rU_ HO367.out))) (below_size (bU_ HB.out))) (C_below (by repeat (first | (with_reducible exact HR352_0.out) | (with_reducible refine Kd.C_alloc ?_ _) | (with_reducible refine Kd.C_drewN ?_ _) | (with_reducible refine Kd.C_drew ?_) | exact HR352_0.out)) hb) (C_below (by repeat (first | (with_reducible exact HR357_0.out) | (with_reducible refine Kd.C_alloc ?_ _) | (with_reducible refine Kd.C_drewN ?_ _) | (with_reducible refine Kd.C_drew ?_) | exact HR357_0.out)) hb) (below_step (bU_ HB.out) hb) ?_; clear HO348 HO351 HL352_0 HO355 HL357_0 HO360 HO364 HO367 HR352_0 HR357_0 HB; intro HO348 HO351 HL352_0 HO355 HL357_0 HO360 HO364 HO367 HO371 HR352_0 HR357_0 HB; clear hb ho34; obtain ⟨Ao35, co35, eo35⟩ := R_slice HO371.out; subst eo35) | (go_at_call 23; (with_reducible refine (poly_Normal.calls k 0 _ _ y369 t372 _ ?side1 ?side2 ?side3 A12.out).mono ?_); (case side1 => exact fU_ HG.out HB.out); (case side2 => exact cU_ ((R_reads' HO371.out).2.2)); (case side3 => exact (R_reads' HO371.out).2.1); rintro e w36 ⟨v373, rfl, ho0, hb⟩; refine nx13_ (R_elder' (rU_ HO348.out) (R_base ho0) hb) (Kd.S_elder' (by (with_reducible repeat (first | apply Kd.S_alloc | apply Kd.S_drewN | apply Kd.S_drew)); exact HO351.out) (R_base ho0) hb) (R_elder' (rU_ HL352_0.out) (R_base ho0) hb) (R_elder' (rU_ HO355.out) (R_base ho0) hb) (R_elder' (rU_ HL357_0.out) (R_base ho0) hb) (R_elder' (rU_ HO360.out) (R_base ho0) hb) (R_elder' (rU_ HO364.out) (R_base ho0) hb) (R_elder' (rU_ HO367.out) (R_base ho0) hb) (R_elder' (rU_ HO371.out) (R_base ho0) hb) (R_lower (R_new' (R_new' (R_new' (R_new' (R_new' (R_new' (R_new' (R_new' ho0 (R_lt (rU_ HO348.out))) (R_lt (rU_ HL352_0.out))) (R_lt (rU_ HO355.out))) (R_lt (rU_ HL357_0.out))) (R_lt (rU_ HO360.out))) (R_lt (rU_ HO364.out))) (R_lt (rU_ HO367.out))) (R_lt (rU_ HO371.out))) (below_size (bU_ HB.out))) (C_below (by repeat (first | (with_reducible exact HR352_0.out) | (with_reducible refine Kd.C_alloc ?_ _) | (with_reducible refine Kd.C_drewN ?_ _) | (with_reducible refine Kd.C_drew ?_) | exact HR352_0.out)) hb) (C_below (by repeat (first | (with_reducible exact HR357_0.out) | (with_reducible refine Kd.C_alloc ?_ _) | (with_reducible refine Kd.C_drewN ?_ _) | (with_reducible refine Kd.C_drew ?_) | exact HR357_0.out)) hb) (below_step (bU_ HB.out) hb) ?_; clear HO348 HO351 HL352_0 HO355 HL357_0 HO360 HO364 HO367 HO371 HR352_0 HR357_0 HB; intro HO348 HO351 HL352_0 HO355 HL357_0 HO360 HO364 HO367 HO371 HO374 HR352_0 HR357_0 HB; clear hb ho0) | ((with_reducible refine gate_dst (N := 50) rfl ?_); (try (refine gate_guard (by rfl) ?_; dsimp only)); refine R_lit (Kd.int .u64) _ 32 ?hg (N := 50) ?hd (xs := ([1] : List Int)) (inner := [.int .u64 1]) (ok := fun _ => True) (okp := fun _ => True) ?hr ?hp (fun _ hk => hk) trivial (Below.refl _ _) (Nat.le_refl _) (by simp) ?_; (case hd => rfl); (case hg => rfl); (case hr => first | (go_simp; done) | (go_simp; rfl)); (case hp => exact (Reps.one (show Kd.M (Kd.int .u64) _ _ _ 1 [.int .u64 1] from rfl) (Reps.none _ _))); intro v376 w37 ho38 hb hg_ hnew_; clear hg_ hnew_; (first | rw [← Ny375.out] at ho38 | (simp only [Int.reduceToNat] at ho38; rw [← Ny375.out] at ho38)); refine nx14_ (R_elder' (rU_ HO348.out) (R_base ho38) hb) (Kd.S_elder' (by (with_reducible repeat (first | apply Kd.S_alloc | apply Kd.S_drewN | apply Kd.S_drew)); exact HO351.out) (R_base ho38) hb) (R_elder' (rU_ HL352_0.out) (R_base ho38) hb) (R_elder' (rU_ HO355.out) (R_base ho38) hb) (R_elder' (rU_ HL357_0.out) (R_base ho38) hb) (R_elder' (rU_ HO360.out) (R_base ho38) hb) (R_elder' (rU_ HO364.out) (R_base ho38) hb) (R_elder' (rU_ HO367.out) (R_base ho38) hb) (R_elder' (rU_ HO371.out) (R_base ho38) hb) (R_elder' (rU_ HO374.out) (R_base ho38) hb) (R_lower (R_new' (R_new' (R_new' (R_new' (R_new' (R_new' (R_new' (R_new' (R_new' ho38 (R_lt (rU_ HO348.out))) (R_lt (rU_ HL352_0.out))) (R_lt (rU_ HO355.out))) (R_lt (rU_ HL357_0.out))) (R_lt (rU_ HO360.out))) (R_lt (rU_ HO364.out))) (R_lt (rU_ HO367.out))) (R_lt (rU_ HO371.out))) (R_lt (rU_ HO374.out))) (below_size (bU_ HB.out))) (C_below (by repeat (first | (with_reducible exact HR352_0.out) | (with_reducible refine Kd.C_alloc ?_ _) | (with_reducible refine Kd.C_drewN ?_ _) | (with_reducible refine Kd.C_drew ?_) | exact HR352_0.out)) hb) (C_below (by repeat (first | (with_reducible exact HR357_0.out) | (with_reducible refine Kd.C_alloc ?_ _) | (with_reducible refine Kd.C_drewN ?_ _) | (with_reducible refine Kd.C_drew ?_) | exact HR357_0.out)) hb) (below_step (bU_ HB.out) hb) ?_; clear HO348 HO351 HL352_0 HO355 HL357_0 HO360 HO364 HO367 HO371 HO374 HR352_0 HR357_0 HB; intro HO348 HO351 HL352_0 HO355 HL357_0 HO360 HO364 HO367 HO371 HO374 HO377 HR352_0 HR357_0 HB; clear hb ho38; obtain ⟨Ao39, co39, eo39⟩ := R_slice HO374.out; subst eo39; obtain ⟨Ao40, co40, eo40⟩ := R_slice HO377.out; subst eo40) | (go_at_call 21; (with_reducible refine (attestorlaw03_same.calls k _ _ t372 _ _ y375 true _ ?side1 ?side2 ?side3 ?side4 A13.out).mono ?_); (case side1 => exact cU_ ((R_reads' HO374.out).2.2)); (case side2 => exact (R_reads' HO374.out).2.1); (case side3 => exact cU_ ((R_reads' HO377.out).2.2)); (case side4 => exact (R_reads' HO377.out).2.1); rintro e w' ⟨rfl, ⟨nd, rfl⟩⟩) | ((with_reducible refine gate_dst (N := 55) rfl ?_); (try (refine gate_guard (by rfl) ?_; dsimp only)); refine R_lit (Kd.int .u64) _ 32 ?hg (N := 55) ?hd (xs := ([5] : List Int)) (inner := [.int .u64 5]) (ok := fun _ => True) (okp := fun _ => True) ?hr ?hp (fun _ hk => hk) trivial (Below.refl _ _) (Nat.le_refl _) (by simp) ?_; (case hd => rfl); (case hg => rfl); (case hr => first | (go_simp; done) | (go_simp; rfl)); (case hp => exact (Reps.one (show Kd.M (Kd.int .u64) _ _ _ 5 [.int .u64 5] from rfl) (Reps.none _ _))); intro v380 w41 ho42 hb hg_ hnew_; clear hg_ hnew_; (first | rw [← Ny379.out] at ho42 | (simp only [Int.reduceToNat] at ho42; rw [← Ny379.out] at ho42)); refine nx15_ (R_elder' (rU_ HO348.out) (R_base ho42) hb) (Kd.S_elder' (by (with_reducible repeat (first | apply Kd.S_alloc | apply Kd.S_drewN | apply Kd.S_drew)); exact HO351.out) (R_base ho42) hb) (R_elder' (rU_ HL352_0.out) (R_base ho42) hb) (R_elder' (rU_ HO355.out) (R_base ho42) hb) (R_elder' (rU_ HL357_0.out) (R_base ho42) hb) (R_elder' (rU_ HO360.out) (R_base ho42) hb) (R_elder' (rU_ HO364.out) (R_base ho42) hb) (R_elder' (rU_ HO367.out) (R_base ho42) hb) (R_elder' (rU_ HO371.out) (R_base ho42) hb) (R_elder' (rU_ HO374.out) (R_base ho42) hb) (R_elder' (rU_ HO377.out) (R_base ho42) hb) (R_lower (R_new' (R_new' (R_new' (R_new' (R_new' (R_new' (R_new' (R_new' (R_new' (R_new' ho42 (R_lt (rU_ HO348.out))) (R_lt (rU_ HL352_0.out))) (R_lt (rU_ HO355.out))) (R_lt (rU_ HL357_0.out))) (R_lt (rU_ HO360.out))) (R_lt (rU_ HO364.out))) (R_lt (rU_ HO367.out))) (R_lt (rU_ HO371.out))) (R_lt (rU_ HO374.out))) (R_lt (rU_ HO377.out))) (below_size (bU_ HB.out))) (C_below (by repeat (first | (with_reducible exact HR352_0.out) | (with_reducible refine Kd.C_alloc ?_ _) | (with_reducible refine Kd.C_drewN ?_ _) | (with_reducible refine Kd.C_drew ?_) | exact HR352_0.out)) hb) (C_below (by repeat (first | (with_reducible exact HR357_0.out) | (with_reducible refine Kd.C_alloc ?_ _) | (with_reducible refine Kd.C_drewN ?_ _) | (with_reducible refine Kd.C_drew ?_) | exact HR357_0.out)) hb) (below_step (bU_ HB.out) hb) ?_; clear HO348 HO351 HL352_0 HO355 HL357_0 HO360 HO364 HO367 HO371 HO374 HO377 HR352_0 HR357_0 HB; intro HO348 HO351 HL352_0 HO355 HL357_0 HO360 HO364 HO367 HO371 HO374 HO377 HO381 HR352_0 HR357_0 HB; clear hb ho42; obtain ⟨Ao43, co43, eo43⟩ := R_slice HO381.out; subst eo43) | (go_at_call 18; (with_reducible refine (poly_Degree.calls k 0 _ _ y379 t382 _ ?side1 ?side2 ?side3 A15.out).mono ?_); (case side1 => exact fU_ HG.out HB.out); (case side2 => exact cU_ ((R_reads' HO381.out).2.2)); (case side3 => exact (R_reads' HO381.out).2.1); rintro e w44 ⟨rfl, hb⟩; refine nx15_ (R_below (rU_ HO348.out) hb) (Kd.S_below (by (with_reducible repeat (first | apply Kd.S_alloc | apply Kd.S_drewN | apply Kd.S_drew)); exact HO351.out) hb) (R_below (rU_ HL352_0.out) hb) (R_below (rU_ HO355.out) hb) (R_below (rU_ HL357_0.out) hb) (R_below (rU_ HO360.out) hb) (R_below (rU_ HO364.out) hb) (R_below (rU_ HO367.out) hb) (R_below (rU_ HO371.out) hb) (R_below (rU_ HO374.out) hb) (R_below (rU_ HO377.out) hb) (R_below (rU_ HO381.out) hb) (C_below (by repeat (first | (with_reducible exact HR352_0.out) | (with_reducible refine Kd.C_alloc ?_ _) | (with_reducible refine Kd.C_drewN ?_ _) | (with_reducible refine Kd.C_drew ?_) | exact HR352_0.out)) hb) (C_below (by repeat (first | (with_reducible exact HR357_0.out) | (with_reducible refine Kd.C_alloc ?_ _) | (with_reducible refine Kd.C_drewN ?_ _) | (with_reducible refine Kd.C_drew ?_) | exact HR357_0.out)) hb) (below_step (bU_ HB.out) hb) ?_; clear HO348 HO351 HL352_0 HO355 HL357_0 HO360 HO364 HO367 HO371 HO374 HO377 HO381 HR352_0 HR357_0 HB; intro HO348 HO351 HL352_0 HO355 HL357_0 HO360 HO364 HO367 HO371 HO374 HO377 HO381 HR352_0 HR357_0 HB; clear hb))
     (try simp only [Act.put, s1_, s2_, s3_])
     go_cut [] (fun wc => ∃ (kq : Nat), Aside0 (attestorlaw03_PolyKnown.j0 kq  = some r) ∧ Aside0 (kq ≤ k) ∧ Aside0 (Kd.C (Kd.int .u64) wc A352_0 (rd_L1 t349 0).length (rd_L1 t349 0)) ∧ Aside0 (Kd.C (Kd.int .u64) wc A357_0 (rd_L1 t349 1).length (rd_L1 t349 1)) ∧ Aside0 (Below w.heap.size w wc))
     case first =>
      have H := HC16.out
      clear HC16
      obtain ⟨c45, H⟩ : (t382 = 0) ∧ _ := it_ H
      have c45b0 := beq_iff_eq.mpr c45
      have c45b1 := bne_eq_false_iff_eq.mpr c45
      clear c45
      (first | rw [c45b0] | (simp only [i64_w, i32_w]; rw [c45b0]) | rw [c45b1] | skip)
      have H' := ak H
      clear H
      go_wp2
      go_meet
      case rel => exact ⟨_, H', ⟨by first | omega | exact Nat.le_refl _⟩, ⟨by repeat (first | (with_reducible exact HR352_0.out) | (with_reducible refine Kd.C_alloc ?_ _) | (with_reducible refine Kd.C_drewN ?_ _) | (with_reducible refine Kd.C_drew ?_) | exact HR352_0.out)⟩, ⟨by repeat (first | (with_reducible exact HR357_0.out) | (with_reducible refine Kd.C_alloc ?_ _) | (with_reducible refine Kd.C_drewN ?_ _) | (with_reducible refine Kd.C_drew ?_) | exact HR357_0.out)⟩, ⟨bU_ HB.out⟩⟩
     case rest =>
      clear HC16
      (try clear c1); (try clear c2); (try clear c2b0); (try clear c2b1); (try clear p2); (try clear c3); (try clear c3b0); (try clear c3b1); (try clear p3); (try clear q3); (try clear hx3); (try clear qi3); (try clear c4); (try clear c5); (try clear c6); (try clear c6b0); (try clear c6b1); (try clear c8); (try clear c9); (try clear c11); (try clear c14); (try clear c35); (try clear p35); (try clear q35); (try clear hx35); (try clear qi35); (try clear c40); (try clear c45); (try clear c45b0); (try clear c45b1); (try clear hx352_0); (try clear hx357_0); (try clear p352); (try clear p357); (try clear q352); (try clear q357)
      obtain ⟨kq, HA, HJ15, HR352_0, HR357_0, HB⟩ := hcut
      cases kq with
      | zero => exact absurd HA.out (by simp [attestorlaw03_PolyKnown.j0])
      | succ kj15 =>
       have H := HA.out
       clear HA
       simp only [attestorlaw03_PolyKnown.j0] at H
       obtain ⟨y383, hy383⟩ : ∃ y_ : List Int, y_ = (([1, 98] : List Int)) := ⟨_, rfl⟩
       replace H : ((poly_Through.f kj15 0 y383 (([1, 1] : List Int))).bind fun bt389 => ((poly_Vanish.f kj15 0 ([] : List Int)).bind fun bt393 => ((poly_Divide.f kj15 0 (([1] : List Int)) ([] : List Int)).bind fun bt400 => ((poly_Mul.f kj15 4 ([] : List Int) ([] : List Int)).bind fun bt407 => ((poly_Through.f kj15 0 (([1] : List Int)) ([] : List Int)).bind fun bt414 => (if 1025 ≤ 35184372088832 then ((poly_Vanish.f kj15 3 (List.replicate 1025 0)).bind fun bt421 => ((poly_Through.f kj15 3 (List.replicate 1025 0) (List.replicate 1025 0)).bind fun bt431 => (if bt389.2 = 6 then (if bt393.2 = 0 then ((attestorlaw03_same.f kj15 bt393.1 (([1] : List Int))).bind fun t438 => (if t438 = true then (if bt400.2.2 = 2 then (if bt407.2 = 1 then (if bt414.2 = 1 then (if bt421.2 = 3 then (if bt431.2 = 3 then (attestorlaw03_PolyKnown.j1 kj15) else (none)) else (none)) else (none)) else (none)) else (none)) else (none))) else (none)) else (none)))) else (none))))))) = some r := by first | (rw [hy383]; with_reducible exact H) | (have H2_ := (Option.bind_some _ _).symm.trans H; rw [hy383]; with_reducible exact H2_) | (have H2_ := (Option.bind_some _ _).symm.trans H; with_reducible exact H2_) | with_reducible exact H | (rw [hy383]; exact H) | exact H
       have Ny383 := ak hy383
       clear hy383
       obtain ⟨y386, hy386⟩ : ∃ y_ : List Int, y_ = (([1, 1] : List Int)) := ⟨_, rfl⟩
       replace H : ((poly_Through.f kj15 0 y383 y386).bind fun bt389 => ((poly_Vanish.f kj15 0 ([] : List Int)).bind fun bt393 => ((poly_Divide.f kj15 0 (([1] : List Int)) ([] : List Int)).bind fun bt400 => ((poly_Mul.f kj15 4 ([] : List Int) ([] : List Int)).bind fun bt407 => ((poly_Through.f kj15 0 (([1] : List Int)) ([] : List Int)).bind fun bt414 => (if 1025 ≤ 35184372088832 then ((poly_Vanish.f kj15 3 (List.replicate 1025 0)).bind fun bt421 => ((poly_Through.f kj15 3 (List.replicate 1025 0) (List.replicate 1025 0)).bind fun bt431 => (if bt389.2 = 6 then (if bt393.2 = 0 then ((attestorlaw03_same.f kj15 bt393.1 (([1] : List Int))).bind fun t438 => (if t438 = true then (if bt400.2.2 = 2 then (if bt407.2 = 1 then (if bt414.2 = 1 then (if bt421.2 = 3 then (if bt431.2 = 3 then (attestorlaw03_PolyKnown.j1 kj15) else (none)) else (none)) else (none)) else (none)) else (none)) else (none))) else (none)) else (none)))) else (none))))))) = some r := by first | (rw [hy386]; with_reducible exact H) | (have H2_ := (Option.bind_some _ _).symm.trans H; rw [hy386]; with_reducible exact H2_) | (have H2_ := (Option.bind_some _ _).symm.trans H; with_reducible exact H2_) | with_reducible exact H | (rw [hy386]; exact H) | exact H
       have Ny386 := ak hy386
       clear hy386
       revert H
       refine bd2_ fun t389 t390 A46 H => ?_
       try dsimp only at H
       revert H
       refine bd2_ fun t393 t394 A47 H => ?_
       try dsimp only at H
       obtain ⟨y397, hy397⟩ : ∃ y_ : List Int, y_ = (([1] : List Int)) := ⟨_, rfl⟩
       replace H : ((poly_Divide.f kj15 0 y397 ([] : List Int)).bind fun bt400 => ((poly_Mul.f kj15 4 ([] : List Int) ([] : List Int)).bind fun bt407 => ((poly_Through.f kj15 0 (([1] : List Int)) ([] : List Int)).bind fun bt414 => (if 1025 ≤ 35184372088832 then ((poly_Vanish.f kj15 3 (List.replicate 1025 0)).bind fun bt421 => ((poly_Through.f kj15 3 (List.replicate 1025 0) (List.replicate 1025 0)).bind fun bt431 => (if t390 = 6 then (if t394 = 0 then ((attestorlaw03_same.f kj15 t393 (([1] : List Int))).bind fun t438 => (if t438 = true then (if bt400.2.2 = 2 then (if bt407.2 = 1 then (if bt414.2 = 1 then (if bt421.2 = 3 then (if bt431.2 = 3 then (attestorlaw03_PolyKnown.j1 kj15) else (none)) else (none)) else (none)) else (none)) else (none)) else (none))) else (none)) else (none)))) else (none))))) = some r := by first | (rw [hy397]; with_reducible exact H) | (have H2_ := (Option.bind_some _ _).symm.trans H; rw [hy397]; with_reducible exact H2_) | (have H2_ := (Option.bind_some _ _).symm.trans H; with_reducible exact H2_) | with_reducible exact H | (rw [hy397]; exact H) | exact H
       have Ny397 := ak hy397
       clear hy397
       revert H
       refine bd3_ fun t400 t401 t402 A48 H => ?_
       try dsimp only at H
       revert H
       refine bd2_ fun t407 t408 A49 H => ?_
       try dsimp only at H
       obtain ⟨y411, hy411⟩ : ∃ y_ : List Int, y_ = (([1] : List Int)) := ⟨_, rfl⟩
       replace H : ((poly_Through.f kj15 0 y411 ([] : List Int)).bind fun bt414 => (if 1025 ≤ 35184372088832 then ((poly_Vanish.f kj15 3 (List.replicate 1025 0)).bind fun bt421 => ((poly_Through.f kj15 3 (List.replicate 1025 0) (List.replicate 1025 0)).bind fun bt431 => (if t390 = 6 then (if t394 = 0 then ((attestorlaw03_same.f kj15 t393 (([1] : List Int))).bind fun t438 => (if t438 = true then (if t402 = 2 then (if t408 = 1 then (if bt414.2 = 1 then (if bt421.2 = 3 then (if bt431.2 = 3 then (attestorlaw03_PolyKnown.j1 kj15) else (none)) else (none)) else (none)) else (none)) else (none)) else (none))) else (none)) else (none)))) else (none))) = some r := by first | (rw [hy411]; with_reducible exact H) | (have H2_ := (Option.bind_some _ _).symm.trans H; rw [hy411]; with_reducible exact H2_) | (have H2_ := (Option.bind_some _ _).symm.trans H; with_reducible exact H2_) | with_reducible exact H | (rw [hy411]; exact H) | exact H
       have Ny411 := ak hy411
       clear hy411
       revert H
       refine bd2_ fun t414 t415 A50 H => ?_
       try dsimp only at H
       obtain ⟨c51, H⟩ : (1025 ≤ 35184372088832) ∧ _ := it_ H
       have c51b0 := eq_true c51
       have c51b1 := decide_eq_true c51
       clear c51
       obtain ⟨y418, hy418⟩ : ∃ y_ : List Int, y_ = (List.replicate 1025 0) := ⟨_, rfl⟩
       replace H : ((poly_Vanish.f kj15 3 y418).bind fun bt421 => ((poly_Through.f kj15 3 (List.replicate 1025 0) (List.replicate 1025 0)).bind fun bt431 => (if t390 = 6 then (if t394 = 0 then ((attestorlaw03_same.f kj15 t393 (([1] : List Int))).bind fun t438 => (if t438 = true then (if t402 = 2 then (if t408 = 1 then (if t415 = 1 then (if bt421.2 = 3 then (if bt431.2 = 3 then (attestorlaw03_PolyKnown.j1 kj15) else (none)) else (none)) else (none)) else (none)) else (none)) else (none))) else (none)) else (none)))) = some r := by first | (rw [hy418]; with_reducible exact H) | (have H2_ := (Option.bind_some _ _).symm.trans H; rw [hy418]; with_reducible exact H2_) | (have H2_ := (Option.bind_some _ _).symm.trans H; with_reducible exact H2_) | with_reducible exact H | (rw [hy418]; exact H) | exact H
       have Ny418 := ak hy418
       clear hy418
       revert H
       refine bd2_ fun t421 t422 A52 H => ?_
       try dsimp only at H
       obtain ⟨y425, hy425⟩ : ∃ y_ : List Int, y_ = (List.replicate 1025 0) := ⟨_, rfl⟩
       replace H : ((poly_Through.f kj15 3 y425 (List.replicate 1025 0)).bind fun bt431 => (if t390 = 6 then (if t394 = 0 then ((attestorlaw03_same.f kj15 t393 (([1] : List Int))).bind fun t438 => (if t438 = true then (if t402 = 2 then (if t408 = 1 then (if t415 = 1 then (if t422 = 3 then (if bt431.2 = 3 then (attestorlaw03_PolyKnown.j1 kj15) else (none)) else (none)) else (none)) else (none)) else (none)) else (none))) else (none)) else (none))) = some r := by first | (rw [hy425]; with_reducible exact H) | (have H2_ := (Option.bind_some _ _).symm.trans H; rw [hy425]; with_reducible exact H2_) | (have H2_ := (Option.bind_some _ _).symm.trans H; with_reducible exact H2_) | with_reducible exact H | (rw [hy425]; exact H) | exact H
       have Ny425 := ak hy425
       clear hy425
       obtain ⟨y428, hy428⟩ : ∃ y_ : List Int, y_ = (List.replicate 1025 0) := ⟨_, rfl⟩
       first | rw [Option.bind_some, ← hy428] at H | rw [← hy428] at H
       have Ny428 := ak hy428
       clear hy428
       revert H
       refine bd2_ fun t431 t432 A53 H => ?_
       try dsimp only at H
       obtain ⟨c54, H⟩ : (t390 = 6) ∧ _ := it_ H
       have c54b0 := beq_iff_eq.mpr c54
       have c54b1 := bne_eq_false_iff_eq.mpr c54
       clear c54
       obtain ⟨c55, H⟩ : (t394 = 0) ∧ _ := it_ H
       have c55b0 := beq_iff_eq.mpr c55
       have c55b1 := bne_eq_false_iff_eq.mpr c55
       clear c55
       obtain ⟨y435, hy435⟩ : ∃ y_ : List Int, y_ = (([1] : List Int)) := ⟨_, rfl⟩
       replace H : ((attestorlaw03_same.f kj15 t393 y435).bind fun t438 => (if t438 = true then (if t402 = 2 then (if t408 = 1 then (if t415 = 1 then (if t422 = 3 then (if t432 = 3 then (attestorlaw03_PolyKnown.j1 kj15) else (none)) else (none)) else (none)) else (none)) else (none)) else (none))) = some r := by first | (rw [hy435]; with_reducible exact H) | (have H2_ := (Option.bind_some _ _).symm.trans H; rw [hy435]; with_reducible exact H2_) | (have H2_ := (Option.bind_some _ _).symm.trans H; with_reducible exact H2_) | with_reducible exact H | (rw [hy435]; exact H) | exact H
       have Ny435 := ak hy435
       clear hy435
       revert H
       refine bd_ fun t438 A56 H => ?_
       by_cases c57 : t438 = true
       ·subst c57
        rw [if_pos rfl] at H
        obtain ⟨c58, H⟩ : (t402 = 2) ∧ _ := it_ H
        have c58b0 := beq_iff_eq.mpr c58
        have c58b1 := bne_eq_false_iff_eq.mpr c58
        clear c58
        obtain ⟨c59, H⟩ : (t408 = 1) ∧ _ := it_ H
        have c59b0 := beq_iff_eq.mpr c59
        have c59b1 := bne_eq_false_iff_eq.mpr c59
        clear c59
        obtain ⟨c60, H⟩ : (t415 = 1) ∧ _ := it_ H
        have c60b0 := beq_iff_eq.mpr c60
        have c60b1 := bne_eq_false_iff_eq.mpr c60
        clear c60
        obtain ⟨c61, H⟩ : (t422 = 3) ∧ _ := it_ H
        have c61b0 := beq_iff_eq.mpr c61
        have c61b1 := bne_eq_false_iff_eq.mpr c61
        clear c61
        have HC62 := ak H
        clear H
        try go_wp2_with (first | ((with_reducible refine gate_dst (N := 60) rfl ?_); (try (refine gate_guard (by rfl) ?_; dsimp only)); refine R_lit (Kd.int .u64) _ 32 ?hg (N := 60) ?hd (xs := ([1, 98] : List Int)) (inner := [.int .u64 1, .int .u64 98]) (ok := fun _ => True) (okp := fun _ => True) ?hr ?hp (fun _ hk => hk) trivial (Below.refl _ _) (Nat.le_refl _) (by simp) ?_; (case hd => rfl); (case hg => rfl); (case hr => first | (go_simp; done) | (go_simp; rfl)); (case hp => exact (Reps.one (show Kd.M (Kd.int .u64) _ _ _ 1 [.int .u64 1] from rfl) (Reps.one (show Kd.M (Kd.int .u64) _ _ _ 98 [.int .u64 98] from rfl) (Reps.none _ _)))); intro v384 w63 ho64 hb hg_ hnew_; clear hg_ hnew_; (first | rw [← Ny383.out] at ho64 | (simp only [Int.reduceToNat] at ho64; rw [← Ny383.out] at ho64)); refine nx4_ (R_lower ho64 (below_size (bU_ HB.out))) (C_below (by repeat (first | (with_reducible exact HR352_0.out) | (with_reducible refine Kd.C_alloc ?_ _) | (with_reducible refine Kd.C_drewN ?_ _) | (with_reducible refine Kd.C_drew ?_) | exact HR352_0.out)) hb) (C_below (by repeat (first | (with_reducible exact HR357_0.out) | (with_reducible refine Kd.C_alloc ?_ _) | (with_reducible refine Kd.C_drewN ?_ _) | (with_reducible refine Kd.C_drew ?_) | exact HR357_0.out)) hb) (below_step (bU_ HB.out) hb) ?_; clear HR352_0 HR357_0 HB; intro HO385 HR352_0 HR357_0 HB; clear hb ho64) | ((with_reducible refine gate_dst (N := 61) rfl ?_); (try (refine gate_guard (by rfl) ?_; dsimp only)); refine R_lit (Kd.int .u64) _ 32 ?hg (N := 61) ?hd (xs := ([1, 1] : List Int)) (inner := [.int .u64 1, .int .u64 1]) (ok := fun _ => True) (okp := fun _ => True) ?hr ?hp (fun _ hk => hk) trivial (Below.refl _ _) (Nat.le_refl _) (by simp) ?_; (case hd => rfl); (case hg => rfl); (case hr => first | (go_simp; done) | (go_simp; rfl)); (case hp => exact (Reps.one (show Kd.M (Kd.int .u64) _ _ _ 1 [.int .u64 1] from rfl) (Reps.one (show Kd.M (Kd.int .u64) _ _ _ 1 [.int .u64 1] from rfl) (Reps.none _ _)))); intro v387 w65 ho66 hb hg_ hnew_; clear hg_ hnew_; (first | rw [← Ny386.out] at ho66 | (simp only [Int.reduceToNat] at ho66; rw [← Ny386.out] at ho66)); refine nx5_ (R_elder' (rU_ HO385.out) (R_base ho66) hb) (R_lower (R_new' ho66 (R_lt (rU_ HO385.out))) (below_size (bU_ HB.out))) (C_below (by repeat (first | (with_reducible exact HR352_0.out) | (with_reducible refine Kd.C_alloc ?_ _) | (with_reducible refine Kd.C_drewN ?_ _) | (with_reducible refine Kd.C_drew ?_) | exact HR352_0.out)) hb) (C_below (by repeat (first | (with_reducible exact HR357_0.out) | (with_reducible refine Kd.C_alloc ?_ _) | (with_reducible refine Kd.C_drewN ?_ _) | (with_reducible refine Kd.C_drew ?_) | exact HR357_0.out)) hb) (below_step (bU_ HB.out) hb) ?_; clear HO385 HR352_0 HR357_0 HB; intro HO385 HO388 HR352_0 HR357_0 HB; clear hb ho66; obtain ⟨Ao67, co67, eo67⟩ := R_slice HO385.out; subst eo67; obtain ⟨Ao68, co68, eo68⟩ := R_slice HO388.out; subst eo68) | ((with_reducible refine gate_callee (f := 12) rfl ?_); refine gl_ (some 62) Tryd.func12 #[.int .i64 0, .slice Ao67 y383.length co67, .slice Ao68 y386.length co68] ?_; (with_reducible refine (poly_Through.calls kj15 0 _ _ y383 _ _ y386 t389 t390 _ ?side1 ?side2 ?side3 ?side4 ?side5 A46.out).mono ?_); (case side1 => exact fU_ HG.out HB.out); (case side2 => exact cU_ ((R_reads' HO385.out).2.2)); (case side3 => exact (R_reads' HO385.out).2.1); (case side4 => exact cU_ ((R_reads' HO388.out).2.2)); (case side5 => exact (R_reads' HO388.out).2.1); rintro e w69 ⟨v391, rfl, ho0, hb⟩; refine ⟨_, rfl, ?_⟩; refine nx6_ (R_elder' (rU_ HO385.out) (R_base ho0) hb) (R_elder' (rU_ HO388.out) (R_base ho0) hb) (R_lower (R_new' (R_new' ho0 (R_lt (rU_ HO385.out))) (R_lt (rU_ HO388.out))) (below_size (bU_ HB.out))) (C_below (by repeat (first | (with_reducible exact HR352_0.out) | (with_reducible refine Kd.C_alloc ?_ _) | (with_reducible refine Kd.C_drewN ?_ _) | (with_reducible refine Kd.C_drew ?_) | exact HR352_0.out)) hb) (C_below (by repeat (first | (with_reducible exact HR357_0.out) | (with_reducible refine Kd.C_alloc ?_ _) | (with_reducible refine Kd.C_drewN ?_ _) | (with_reducible refine Kd.C_drew ?_) | exact HR357_0.out)) hb) (below_step (bU_ HB.out) hb) ?_; clear HO385 HO388 HR352_0 HR357_0 HB; intro HO385 HO388 HO392 HR352_0 HR357_0 HB; clear hb ho0) | ((with_reducible refine gate_callee (f := 14) rfl ?_); refine gl_ (some 66) Tryd.func14 #[.int .i64 0, .slice none 0 0] ?_; (refine (poly_Vanish.calls kj15 0 _ _ ([] : List Int) t393 t394 _ ?side1 ?side2 ?side3 A47.out).mono ?_); (case side1 => exact fU_ HG.out HB.out); (case side2 => exact Kd.C_nil _ _); (case side3 => exact Nat.le_refl _); rintro e w70 ⟨v395, rfl, ho0, hb⟩; refine ⟨_, rfl, ?_⟩; refine nx7_ (R_elder' (rU_ HO385.out) (R_base ho0) hb) (R_elder' (rU_ HO388.out) (R_base ho0) hb) (R_elder' (rU_ HO392.out) (R_base ho0) hb) (R_lower (R_new' (R_new' (R_new' ho0 (R_lt (rU_ HO385.out))) (R_lt (rU_ HO388.out))) (R_lt (rU_ HO392.out))) (below_size (bU_ HB.out))) (C_below (by repeat (first | (with_reducible exact HR352_0.out) | (with_reducible refine Kd.C_alloc ?_ _) | (with_reducible refine Kd.C_drewN ?_ _) | (with_reducible refine Kd.C_drew ?_) | exact HR352_0.out)) hb) (C_below (by repeat (first | (with_reducible exact HR357_0.out) | (with_reducible refine Kd.C_alloc ?_ _) | (with_reducible refine Kd.C_drewN ?_ _) | (with_reducible refine Kd.C_drew ?_) | exact HR357_0.out)) hb) (below_step (bU_ HB.out) hb) ?_; clear HO385 HO388 HO392 HR352_0 HR357_0 HB; intro HO385 HO388 HO392 HO396 HR352_0 HR357_0 HB; clear hb ho0) | ((with_reducible refine gate_dst (N := 70) rfl ?_); (try (refine gate_guard (by rfl) ?_; dsimp only)); refine R_lit (Kd.int .u64) _ 32 ?hg (N := 70) ?hd (xs := ([1] : List Int)) (inner := [.int .u64 1]) (ok := fun _ => True) (okp := fun _ => True) ?hr ?hp (fun _ hk => hk) trivial (Below.refl _ _) (Nat.le_refl _) (by simp) ?_; (case hd => rfl); (case hg => rfl); (case hr => first | (go_simp; done) | (go_simp; rfl)); (case hp => exact (Reps.one (show Kd.M (Kd.int .u64) _ _ _ 1 [.int .u64 1] from rfl) (Reps.none _ _))); intro v398 w71 ho72 hb hg_ hnew_; clear hg_ hnew_; (first | rw [← Ny397.out] at ho72 | (simp only [Int.reduceToNat] at ho72; rw [← Ny397.out] at ho72)); refine nx8_ (R_elder' (rU_ HO385.out) (R_base ho72) hb) (R_elder' (rU_ HO388.out) (R_base ho72) hb) (R_elder' (rU_ HO392.out) (R_base ho72) hb) (R_elder' (rU_ HO396.out) (R_base ho72) hb) (R_lower (R_new' (R_new' (R_new' (R_new' ho72 (R_lt (rU_ HO385.out))) (R_lt (rU_ HO388.out))) (R_lt (rU_ HO392.out))) (R_lt (rU_ HO396.out))) (below_size (bU_ HB.out))) (C_below (by repeat (first | (with_reducible exact HR352_0.out) | (with_reducible refine Kd.C_alloc ?_ _) | (with_reducible refine Kd.C_drewN ?_ _) | (with_reducible refine Kd.C_drew ?_) | exact HR352_0.out)) hb) (C_below (by repeat (first | (with_reducible exact HR357_0.out) | (with_reducible refine Kd.C_alloc ?_ _) | (with_reducible refine Kd.C_drewN ?_ _) | (with_reducible refine Kd.C_drew ?_) | exact HR357_0.out)) hb) (below_step (bU_ HB.out) hb) ?_; clear HO385 HO388 HO392 HO396 HR352_0 HR357_0 HB; intro HO385 HO388 HO392 HO396 HO399 HR352_0 HR357_0 HB; clear hb ho72; obtain ⟨Ao73, co73, eo73⟩ := R_slice HO399.out; subst eo73) | ((with_reducible refine gate_callee (f := 19) rfl ?_); refine gl_ (some 71) Tryd.func19 #[.int .i64 0, .slice Ao73 y397.length co73, .slice none 0 0] ?_; (refine (poly_Divide.calls kj15 0 _ _ y397 _ _ ([] : List Int) t400 t401 t402 _ ?side1 ?side2 ?side3 ?side4 ?side5 A48.out).mono ?_); (case side1 => exact fU_ HG.out HB.out); (case side2 => exact cU_ ((R_reads' HO399.out).2.2)); (case side3 => exact (R_reads' HO399.out).2.1); (case side4 => exact Kd.C_nil _ _); (case side5 => exact Nat.le_refl _); rintro e w74 ⟨v403, v405, rfl, ho0, ho1, hb⟩; refine ⟨_, rfl, ?_⟩; refine nx10_ (R_mono (Kd.R_told (Kd.R_told (Kd.R_old (rU_ HO385.out) hb) (R_base ho0)) (R_base ho1)) (fun _ h_ => h_.1)) (R_mono (Kd.R_told (Kd.R_told (Kd.R_old (rU_ HO388.out) hb) (R_base ho0)) (R_base ho1)) (fun _ h_ => h_.1)) (R_mono (Kd.R_told (Kd.R_told (Kd.R_old (rU_ HO392.out) hb) (R_base ho0)) (R_base ho1)) (fun _ h_ => h_.1)) (R_mono (Kd.R_told (Kd.R_told (Kd.R_old (rU_ HO396.out) hb) (R_base ho0)) (R_base ho1)) (fun _ h_ => h_.1)) (R_mono (Kd.R_told (Kd.R_told (Kd.R_old (rU_ HO399.out) hb) (R_base ho0)) (R_base ho1)) (fun _ h_ => h_.1)) (R_lower (R_new' (R_new' (R_new' (R_new' (R_new' ho0 (R_lt (rU_ HO385.out))) (R_lt (rU_ HO388.out))) (R_lt (rU_ HO392.out))) (R_lt (rU_ HO396.out))) (R_lt (rU_ HO399.out))) (below_size (bU_ HB.out))) (R_lower (R_new' (R_new' (R_new' (R_new' (R_new' ho1 (R_lt (rU_ HO385.out))) (R_lt (rU_ HO388.out))) (R_lt (rU_ HO392.out))) (R_lt (rU_ HO396.out))) (R_lt (rU_ HO399.out))) (below_size (bU_ HB.out))) (C_below (by repeat (first | (with_reducible exact HR352_0.out) | (with_reducible refine Kd.C_alloc ?_ _) | (with_reducible refine Kd.C_drewN ?_ _) | (with_reducible refine Kd.C_drew ?_) | exact HR352_0.out)) hb) (C_below (by repeat (first | (with_reducible exact HR357_0.out) | (with_reducible refine Kd.C_alloc ?_ _) | (with_reducible refine Kd.C_drewN ?_ _) | (with_reducible refine Kd.C_drew ?_) | exact HR357_0.out)) hb) (below_step (bU_ HB.out) hb) ?_; clear HO385 HO388 HO392 HO396 HO399 HR352_0 HR357_0 HB; intro HO385 HO388 HO392 HO396 HO399 HO404 HO406 HR352_0 HR357_0 HB; clear hb ho0 ho1) | ((with_reducible refine gate_callee (f := 20) rfl ?_); refine gl_ (some 76) Tryd.func20 #[.int .i64 4, .slice none 0 0, .slice none 0 0] ?_; (refine (poly_Mul.calls kj15 4 _ _ ([] : List Int) _ _ ([] : List Int) t407 t408 _ ?side1 ?side2 ?side3 ?side4 ?side5 A49.out).mono ?_); (case side1 => exact fU_ HG.out HB.out); (case side2 => exact Kd.C_nil _ _); (case side3 => exact Nat.le_refl _); (case side4 => exact Kd.C_nil _ _); (case side5 => exact Nat.le_refl _); rintro e w75 ⟨v409, rfl, ho0, hb⟩; refine ⟨_, rfl, ?_⟩; refine nx11_ (R_elder' (rU_ HO385.out) (R_base ho0) hb) (R_elder' (rU_ HO388.out) (R_base ho0) hb) (R_elder' (rU_ HO392.out) (R_base ho0) hb) (R_elder' (rU_ HO396.out) (R_base ho0) hb) (R_elder' (rU_ HO399.out) (R_base ho0) hb) (R_elder' (rU_ HO404.out) (R_base ho0) hb) (R_elder' (rU_ HO406.out) (R_base ho0) hb) (R_lower (R_new' (R_new' (R_new' (R_new' (R_new' (R_new' (R_new' ho0 (R_lt (rU_ HO385.out))) (R_lt (rU_ HO388.out))) (R_lt (rU_ HO392.out))) (R_lt (rU_ HO396.out))) (R_lt (rU_ HO399.out))) (R_lt (rU_ HO404.out))) (R_lt (rU_ HO406.out))) (below_size (bU_ HB.out))) (C_below (by repeat (first | (with_reducible exact HR352_0.out) | (with_reducible refine Kd.C_alloc ?_ _) | (with_reducible refine Kd.C_drewN ?_ _) | (with_reducible refine Kd.C_drew ?_) | exact HR352_0.out)) hb) (C_below (by repeat (first | (with_reducible exact HR357_0.out) | (with_reducible refine Kd.C_alloc ?_ _) | (with_reducible refine Kd.C_drewN ?_ _) | (with_reducible refine Kd.C_drew ?_) | exact HR357_0.out)) hb) (below_step (bU_ HB.out) hb) ?_; clear HO385 HO388 HO392 HO396 HO399 HO404 HO406 HR352_0 HR357_0 HB; intro HO385 HO388 HO392 HO396 HO399 HO404 HO406 HO410 HR352_0 HR357_0 HB; clear hb ho0) | ((with_reducible refine gate_dst (N := 80) rfl ?_); (try (refine gate_guard (by rfl) ?_; dsimp only)); refine R_lit (Kd.int .u64) _ 32 ?hg (N := 80) ?hd (xs := ([1] : List Int)) (inner := [.int .u64 1]) (ok := fun _ => True) (okp := fun _ => True) ?hr ?hp (fun _ hk => hk) trivial (Below.refl _ _) (Nat.le_refl _) (by simp) ?_; (case hd => rfl); (case hg => rfl); (case hr => first | (go_simp; done) | (go_simp; rfl)); (case hp => exact (Reps.one (show Kd.M (Kd.int .u64) _ _ _ 1 [.int .u64 1] from rfl) (Reps.none _ _))); intro v412 w76 ho77 hb hg_ hnew_; clear hg_ hnew_; (first | rw [← Ny411.out] at ho77 | (simp only [Int.reduceToNat] at ho77; rw [← Ny411.out] at ho77)); refine nx12_ (R_elder' (rU_ HO385.out) (R_base ho77) hb) (R_elder' (rU_ HO388.out) (R_base ho77) hb) (R_elder' (rU_ HO392.out) (R_base ho77) hb) (R_elder' (rU_ HO396.out) (R_base ho77) hb) (R_elder' (rU_ HO399.out) (R_base ho77) hb) (R_elder' (rU_ HO404.out) (R_base ho77) hb) (R_elder' (rU_ HO406.out) (R_base ho77) hb) (R_elder' (rU_ HO410.out) (R_base ho77) hb) (R_lower (R_new' (R_new' (R_new' (R_new' (R_new' (R_new' (R_new' (R_new' ho77 (R_lt (rU_ HO385.out))) (R_lt (rU_ HO388.out))) (R_lt (rU_ HO392.out))) (R_lt (rU_ HO396.out))) (R_lt (rU_ HO399.out))) (R_lt (rU_ HO404.out))) (R_lt (rU_ HO406.out))) (R_lt (rU_ HO410.out))) (below_size (bU_ HB.out))) (C_below (by repeat (first | (with_reducible exact HR352_0.out) | (with_reducible refine Kd.C_alloc ?_ _) | (with_reducible refine Kd.C_drewN ?_ _) | (with_reducible refine Kd.C_drew ?_) | exact HR352_0.out)) hb) (C_below (by repeat (first | (with_reducible exact HR357_0.out) | (with_reducible refine Kd.C_alloc ?_ _) | (with_reducible refine Kd.C_drewN ?_ _) | (with_reducible refine Kd.C_drew ?_) | exact HR357_0.out)) hb) (below_step (bU_ HB.out) hb) ?_; clear HO385 HO388 HO392 HO396 HO399 HO404 HO406 HO410 HR352_0 HR357_0 HB; intro HO385 HO388 HO392 HO396 HO399 HO404 HO406 HO410 HO413 HR352_0 HR357_0 HB; clear hb ho77; obtain ⟨Ao78, co78, eo78⟩ := R_slice HO413.out; subst eo78) | ((with_reducible refine gate_callee (f := 12) rfl ?_); refine gl_ (some 81) Tryd.func12 #[.int .i64 0, .slice Ao78 y411.length co78, .slice none 0 0] ?_; (refine (poly_Through.calls kj15 0 _ _ y411 _ _ ([] : List Int) t414 t415 _ ?side1 ?side2 ?side3 ?side4 ?side5 A50.out).mono ?_); (case side1 => exact fU_ HG.out HB.out); (case side2 => exact cU_ ((R_reads' HO413.out).2.2)); (case side3 => exact (R_reads' HO413.out).2.1); (case side4 => exact Kd.C_nil _ _); (case side5 => exact Nat.le_refl _); rintro e w79 ⟨v416, rfl, ho0, hb⟩; refine ⟨_, rfl, ?_⟩; refine nx13_ (R_elder' (rU_ HO385.out) (R_base ho0) hb) (R_elder' (rU_ HO388.out) (R_base ho0) hb) (R_elder' (rU_ HO392.out) (R_base ho0) hb) (R_elder' (rU_ HO396.out) (R_base ho0) hb) (R_elder' (rU_ HO399.out) (R_base ho0) hb) (R_elder' (rU_ HO404.out) (R_base ho0) hb) (R_elder' (rU_ HO406.out) (R_base ho0) hb) (R_elder' (rU_ HO410.out) (R_base ho0) hb) (R_elder' (rU_ HO413.out) (R_base ho0) hb) (R_lower (R_new' (R_new' (R_new' (R_new' (R_new' (R_new' (R_new' (R_new' (R_new' ho0 (R_lt (rU_ HO385.out))) (R_lt (rU_ HO388.out))) (R_lt (rU_ HO392.out))) (R_lt (rU_ HO396.out))) (R_lt (rU_ HO399.out))) (R_lt (rU_ HO404.out))) (R_lt (rU_ HO406.out))) (R_lt (rU_ HO410.out))) (R_lt (rU_ HO413.out))) (below_size (bU_ HB.out))) (C_below (by repeat (first | (with_reducible exact HR352_0.out) | (with_reducible refine Kd.C_alloc ?_ _) | (with_reducible refine Kd.C_drewN ?_ _) | (with_reducible refine Kd.C_drew ?_) | exact HR352_0.out)) hb) (C_below (by repeat (first | (with_reducible exact HR357_0.out) | (with_reducible refine Kd.C_alloc ?_ _) | (with_reducible refine Kd.C_drewN ?_ _) | (with_reducible refine Kd.C_drew ?_) | exact HR357_0.out)) hb) (below_step (bU_ HB.out) hb) ?_; clear HO385 HO388 HO392 HO396 HO399 HO404 HO406 HO410 HO413 HR352_0 HR357_0 HB; intro HO385 HO388 HO392 HO396 HO399 HO404 HO406 HO410 HO413 HO417 HR352_0 HR357_0 HB; clear hb ho0) | ((with_reducible refine gate_dst (N := 85) rfl ?_); (try (refine gate_guard (by rfl) ?_; dsimp only)); refine R_make (Kd.int .u64) _ 32 rfl (N := 85) rfl 22 _ _ rfl 1025 ?hx ?hy Tryd.underlying22 (.int .u64 0) 8 info32 rfl (by decide) (by omega) 0 (ok := fun _ => True) (okp := fun _ => True) rfl (fun _ hk => hk) trivial (by omega) (by omega) (Below.refl _ _) (Nat.le_refl _) ?_; (case hx => first | rfl); (case hy => first | rfl); intro v419 w80 ho81 hb hg_ hnew_; clear hg_ hnew_; (first | rw [← Ny418.out] at ho81 | (simp only [Int.reduceToNat] at ho81; rw [← Ny418.out] at ho81)); refine nx14_ (R_elder' (rU_ HO385.out) (R_base ho81) hb) (R_elder' (rU_ HO388.out) (R_base ho81) hb) (R_elder' (rU_ HO392.out) (R_base ho81) hb) (R_elder' (rU_ HO396.out) (R_base ho81) hb) (R_elder' (rU_ HO399.out) (R_base ho81) hb) (R_elder' (rU_ HO404.out) (R_base ho81) hb) (R_elder' (rU_ HO406.out) (R_base ho81) hb) (R_elder' (rU_ HO410.out) (R_base ho81) hb) (R_elder' (rU_ HO413.out) (R_base ho81) hb) (R_elder' (rU_ HO417.out) (R_base ho81) hb) (R_lower (R_new' (R_new' (R_new' (R_new' (R_new' (R_new' (R_new' (R_new' (R_new' (R_new' ho81 (R_lt (rU_ HO385.out))) (R_lt (rU_ HO388.out))) (R_lt (rU_ HO392.out))) (R_lt (rU_ HO396.out))) (R_lt (rU_ HO399.out))) (R_lt (rU_ HO404.out))) (R_lt (rU_ HO406.out))) (R_lt (rU_ HO410.out))) (R_lt (rU_ HO413.out))) (R_lt (rU_ HO417.out))) (below_size (bU_ HB.out))) (C_below (by repeat (first | (with_reducible exact HR352_0.out) | (with_reducible refine Kd.C_alloc ?_ _) | (with_reducible refine Kd.C_drewN ?_ _) | (with_reducible refine Kd.C_drew ?_) | exact HR352_0.out)) hb) (C_below (by repeat (first | (with_reducible exact HR357_0.out) | (with_reducible refine Kd.C_alloc ?_ _) | (with_reducible refine Kd.C_drewN ?_ _) | (with_reducible refine Kd.C_drew ?_) | exact HR357_0.out)) hb) (below_step (bU_ HB.out) hb) ?_; clear HO385 HO388 HO392 HO396 HO399 HO404 HO406 HO410 HO413 HO417 HR352_0 HR357_0 HB; intro HO385 HO388 HO392 HO396 HO399 HO404 HO406 HO410 HO413 HO417 HO420 HR352_0 HR357_0 HB; clear hb ho81; obtain ⟨Ao82, co82, eo82⟩ := R_slice HO420.out; subst eo82) | ((with_reducible refine gate_callee (f := 14) rfl ?_); refine gl_ (some 86) Tryd.func14 #[.int .i64 3, .slice Ao82 y418.length co82] ?_; (with_reducible refine (poly_Vanish.calls kj15 3 _ _ y418 t421 t422 _ ?side1 ?side2 ?side3 A52.out).mono ?_); (case side1 => exact fU_ HG.out HB.out); (case side2 => exact cU_ ((R_reads' HO420.out).2.2)); (case side3 => exact (R_reads' HO420.out).2.1); rintro e w83 ⟨v423, rfl, ho0, hb⟩; refine ⟨_, rfl, ?_⟩; refine nx15_ (R_elder' (rU_ HO385.out) (R_base ho0) hb) (R_elder' (rU_ HO388.out) (R_base ho0) hb) (R_elder' (rU_ HO392.out) (R_base ho0) hb) (R_elder' (rU_ HO396.out) (R_base ho0) hb) (R_elder' (rU_ HO399.out) (R_base ho0) hb) (R_elder' (rU_ HO404.out) (R_base ho0) hb) (R_elder' (rU_ HO406.out) (R_base ho0) hb) (R_elder' (rU_ HO410.out) (R_base ho0) hb) (R_elder' (rU_ HO413.out) (R_base ho0) hb) (R_elder' (rU_ HO417.out) (R_base ho0) hb) (R_elder' (rU_ HO420.out) (R_base ho0) hb) (R_lower (R_new' (R_new' (R_new' (R_new' (R_new' (R_new' (R_new' (R_new' (R_new' (R_new' (R_new' ho0 (R_lt (rU_ HO385.out))) (R_lt (rU_ HO388.out))) (R_lt (rU_ HO392.out))) (R_lt (rU_ HO396.out))) (R_lt (rU_ HO399.out))) (R_lt (rU_ HO404.out))) (R_lt (rU_ HO406.out))) (R_lt (rU_ HO410.out))) (R_lt (rU_ HO413.out))) (R_lt (rU_ HO417.out))) (R_lt (rU_ HO420.out))) (below_size (bU_ HB.out))) (C_below (by repeat (first | (with_reducible exact HR352_0.out) | (with_reducible refine Kd.C_alloc ?_ _) | (with_reducible refine Kd.C_drewN ?_ _) | (with_reducible refine Kd.C_drew ?_) | exact HR352_0.out)) hb) (C_below (by repeat (first | (with_reducible exact HR357_0.out) | (with_reducible refine Kd.C_alloc ?_ _) | (with_reducible refine Kd.C_drewN ?_ _) | (with_reducible refine Kd.C_drew ?_) | exact HR357_0.out)) hb) (below_step (bU_ HB.out) hb) ?_; clear HO385 HO388 HO392 HO396 HO399 HO404 HO406 HO410 HO413 HO417 HO420 HR352_0 HR357_0 HB; intro HO385 HO388 HO392 HO396 HO399 HO404 HO406 HO410 HO413 HO417 HO420 HO424 HR352_0 HR357_0 HB; clear hb ho0))
        refine nx15_ (R_drew HO385.out) (R_drew HO388.out) (R_drew HO392.out) (R_drew HO396.out) (R_drew HO399.out) (R_drew HO404.out) (R_drew HO406.out) (R_drew HO410.out) (R_drew HO413.out) (R_drew HO417.out) (R_drew HO420.out) (R_drew HO424.out) (Kd.C_drew HR352_0.out) (Kd.C_drew HR357_0.out) (below_drew1 HB.out) ?_
        clear HO385 HO388 HO392 HO396 HO399 HO404 HO406 HO410 HO413 HO417 HO420 HO424 HR352_0 HR357_0 HB
        intro HO385 HO388 HO392 HO396 HO399 HO404 HO406 HO410 HO413 HO417 HO420 HO424 HR352_0 HR357_0 HB
        refine start_ (n := 8) (S := fun w' => True) (ds := []) (bv 8 0) (by kernel_rfl) rfl rfl trivial (fun hHeld => ?_); refine with_tabW attestorlaw03_PolyKnown.tab10 attestorlaw03_PolyKnown.bits10 (fun HT_ HW_ => ?_)
        generalize w83.drew = w84 at HO385 HO388 HO392 HO396 HO399 HO404 HO406 HO410 HO413 HO417 HO420 HO424 HR352_0 HR357_0 HB hHeld ⊢
        refine join_ (σ := Value × Value) 6 #[true, true, false, false, false, false, false, false] (fun s_ => [(90, s_.1), (91, s_.2)]) (fun s_ w' => (Kd.R (Kd.int .u64) 32 w' w.heap.size (fun k_ => some k_ ≠ (.slice Ao68 y386.length co68 : Value).ownBlock ∧ some k_ ≠ (v391 : Value).ownBlock ∧ some k_ ≠ (v395 : Value).ownBlock ∧ some k_ ≠ (.slice Ao73 y397.length co73 : Value).ownBlock ∧ some k_ ≠ (v403 : Value).ownBlock ∧ some k_ ≠ (v405 : Value).ownBlock ∧ some k_ ≠ (v409 : Value).ownBlock ∧ some k_ ≠ (.slice Ao78 y411.length co78 : Value).ownBlock ∧ some k_ ≠ (v416 : Value).ownBlock ∧ some k_ ≠ (.slice Ao82 y418.length co82 : Value).ownBlock ∧ some k_ ≠ (v423 : Value).ownBlock ∧ some k_ ≠ (s_.1 : Value).ownBlock ∧ some k_ ≠ (s_.2 : Value).ownBlock) (.slice Ao67 y383.length co67) y383) ∧ (Kd.R (Kd.int .u64) 32 w' w.heap.size (fun k_ => some k_ ≠ (.slice Ao67 y383.length co67 : Value).ownBlock ∧ some k_ ≠ (v391 : Value).ownBlock ∧ some k_ ≠ (v395 : Value).ownBlock ∧ some k_ ≠ (.slice Ao73 y397.length co73 : Value).ownBlock ∧ some k_ ≠ (v403 : Value).ownBlock ∧ some k_ ≠ (v405 : Value).ownBlock ∧ some k_ ≠ (v409 : Value).ownBlock ∧ some k_ ≠ (.slice Ao78 y411.length co78 : Value).ownBlock ∧ some k_ ≠ (v416 : Value).ownBlock ∧ some k_ ≠ (.slice Ao82 y418.length co82 : Value).ownBlock ∧ some k_ ≠ (v423 : Value).ownBlock ∧ some k_ ≠ (s_.1 : Value).ownBlock ∧ some k_ ≠ (s_.2 : Value).ownBlock) (.slice Ao68 y386.length co68) y386) ∧ (Kd.R (Kd.int .u64) 32 w' w.heap.size (fun k_ => some k_ ≠ (.slice Ao67 y383.length co67 : Value).ownBlock ∧ some k_ ≠ (.slice Ao68 y386.length co68 : Value).ownBlock ∧ some k_ ≠ (v395 : Value).ownBlock ∧ some k_ ≠ (.slice Ao73 y397.length co73 : Value).ownBlock ∧ some k_ ≠ (v403 : Value).ownBlock ∧ some k_ ≠ (v405 : Value).ownBlock ∧ some k_ ≠ (v409 : Value).ownBlock ∧ some k_ ≠ (.slice Ao78 y411.length co78 : Value).ownBlock ∧ some k_ ≠ (v416 : Value).ownBlock ∧ some k_ ≠ (.slice Ao82 y418.length co82 : Value).ownBlock ∧ some k_ ≠ (v423 : Value).ownBlock ∧ some k_ ≠ (s_.1 : Value).ownBlock ∧ some k_ ≠ (s_.2 : Value).ownBlock) v391 t389) ∧ (Kd.R (Kd.int .u64) 32 w' w.heap.size (fun k_ => some k_ ≠ (.slice Ao67 y383.length co67 : Value).ownBlock ∧ some k_ ≠ (.slice Ao68 y386.length co68 : Value).ownBlock ∧ some k_ ≠ (v391 : Value).ownBlock ∧ some k_ ≠ (.slice Ao73 y397.length co73 : Value).ownBlock ∧ some k_ ≠ (v403 : Value).ownBlock ∧ some k_ ≠ (v405 : Value).ownBlock ∧ some k_ ≠ (v409 : Value).ownBlock ∧ some k_ ≠ (.slice Ao78 y411.length co78 : Value).ownBlock ∧ some k_ ≠ (v416 : Value).ownBlock ∧ some k_ ≠ (.slice Ao82 y418.length co82 : Value).ownBlock ∧ some k_ ≠ (v423 : Value).ownBlock ∧ some k_ ≠ (s_.1 : Value).ownBlock ∧ some k_ ≠ (s_.2 : Value).ownBlock) v395 t393) ∧ (Kd.R (Kd.int .u64) 32 w' w.heap.size (fun k_ => some k_ ≠ (.slice Ao67 y383.length co67 : Value).ownBlock ∧ some k_ ≠ (.slice Ao68 y386.length co68 : Value).ownBlock ∧ some k_ ≠ (v391 : Value).ownBlock ∧ some k_ ≠ (v395 : Value).ownBlock ∧ some k_ ≠ (v403 : Value).ownBlock ∧ some k_ ≠ (v405 : Value).ownBlock ∧ some k_ ≠ (v409 : Value).ownBlock ∧ some k_ ≠ (.slice Ao78 y411.length co78 : Value).ownBlock ∧ some k_ ≠ (v416 : Value).ownBlock ∧ some k_ ≠ (.slice Ao82 y418.length co82 : Value).ownBlock ∧ some k_ ≠ (v423 : Value).ownBlock ∧ some k_ ≠ (s_.1 : Value).ownBlock ∧ some k_ ≠ (s_.2 : Value).ownBlock) (.slice Ao73 y397.length co73) y397) ∧ (Kd.R (Kd.int .u64) 32 w' w.heap.size (fun k_ => some k_ ≠ (.slice Ao67 y383.length co67 : Value).ownBlock ∧ some k_ ≠ (.slice Ao68 y386.length co68 : Value).ownBlock ∧ some k_ ≠ (v391 : Value).ownBlock ∧ some k_ ≠ (v395 : Value).ownBlock ∧ some k_ ≠ (.slice Ao73 y397.length co73 : Value).ownBlock ∧ some k_ ≠ (v405 : Value).ownBlock ∧ some k_ ≠ (v409 : Value).ownBlock ∧ some k_ ≠ (.slice Ao78 y411.length co78 : Value).ownBlock ∧ some k_ ≠ (v416 : Value).ownBlock ∧ some k_ ≠ (.slice Ao82 y418.length co82 : Value).ownBlock ∧ some k_ ≠ (v423 : Value).ownBlock ∧ some k_ ≠ (s_.1 : Value).ownBlock ∧ some k_ ≠ (s_.2 : Value).ownBlock) v403 t400) ∧ (Kd.R (Kd.int .u64) 32 w' w.heap.size (fun k_ => some k_ ≠ (.slice Ao67 y383.length co67 : Value).ownBlock ∧ some k_ ≠ (.slice Ao68 y386.length co68 : Value).ownBlock ∧ some k_ ≠ (v391 : Value).ownBlock ∧ some k_ ≠ (v395 : Value).ownBlock ∧ some k_ ≠ (.slice Ao73 y397.length co73 : Value).ownBlock ∧ some k_ ≠ (v403 : Value).ownBlock ∧ some k_ ≠ (v409 : Value).ownBlock ∧ some k_ ≠ (.slice Ao78 y411.length co78 : Value).ownBlock ∧ some k_ ≠ (v416 : Value).ownBlock ∧ some k_ ≠ (.slice Ao82 y418.length co82 : Value).ownBlock ∧ some k_ ≠ (v423 : Value).ownBlock ∧ some k_ ≠ (s_.1 : Value).ownBlock ∧ some k_ ≠ (s_.2 : Value).ownBlock) v405 t401) ∧ (Kd.R (Kd.int .u64) 32 w' w.heap.size (fun k_ => some k_ ≠ (.slice Ao67 y383.length co67 : Value).ownBlock ∧ some k_ ≠ (.slice Ao68 y386.length co68 : Value).ownBlock ∧ some k_ ≠ (v391 : Value).ownBlock ∧ some k_ ≠ (v395 : Value).ownBlock ∧ some k_ ≠ (.slice Ao73 y397.length co73 : Value).ownBlock ∧ some k_ ≠ (v403 : Value).ownBlock ∧ some k_ ≠ (v405 : Value).ownBlock ∧ some k_ ≠ (.slice Ao78 y411.length co78 : Value).ownBlock ∧ some k_ ≠ (v416 : Value).ownBlock ∧ some k_ ≠ (.slice Ao82 y418.length co82 : Value).ownBlock ∧ some k_ ≠ (v423 : Value).ownBlock ∧ some k_ ≠ (s_.1 : Value).ownBlock ∧ some k_ ≠ (s_.2 : Value).ownBlock) v409 t407) ∧ (Kd.R (Kd.int .u64) 32 w' w.heap.size (fun k_ => some k_ ≠ (.slice Ao67 y383.length co67 : Value).ownBlock ∧ some k_ ≠ (.slice Ao68 y386.length co68 : Value).ownBlock ∧ some k_ ≠ (v391 : Value).ownBlock ∧ some k_ ≠ (v395 : Value).ownBlock ∧ some k_ ≠ (.slice Ao73 y397.length co73 : Value).ownBlock ∧ some k_ ≠ (v403 : Value).ownBlock ∧ some k_ ≠ (v405 : Value).ownBlock ∧ some k_ ≠ (v409 : Value).ownBlock ∧ some k_ ≠ (v416 : Value).ownBlock ∧ some k_ ≠ (.slice Ao82 y418.length co82 : Value).ownBlock ∧ some k_ ≠ (v423 : Value).ownBlock ∧ some k_ ≠ (s_.1 : Value).ownBlock ∧ some k_ ≠ (s_.2 : Value).ownBlock) (.slice Ao78 y411.length co78) y411) ∧ (Kd.R (Kd.int .u64) 32 w' w.heap.size (fun k_ => some k_ ≠ (.slice Ao67 y383.length co67 : Value).ownBlock ∧ some k_ ≠ (.slice Ao68 y386.length co68 : Value).ownBlock ∧ some k_ ≠ (v391 : Value).ownBlock ∧ some k_ ≠ (v395 : Value).ownBlock ∧ some k_ ≠ (.slice Ao73 y397.length co73 : Value).ownBlock ∧ some k_ ≠ (v403 : Value).ownBlock ∧ some k_ ≠ (v405 : Value).ownBlock ∧ some k_ ≠ (v409 : Value).ownBlock ∧ some k_ ≠ (.slice Ao78 y411.length co78 : Value).ownBlock ∧ some k_ ≠ (.slice Ao82 y418.length co82 : Value).ownBlock ∧ some k_ ≠ (v423 : Value).ownBlock ∧ some k_ ≠ (s_.1 : Value).ownBlock ∧ some k_ ≠ (s_.2 : Value).ownBlock) v416 t414) ∧ (Kd.R (Kd.int .u64) 32 w' w.heap.size (fun k_ => some k_ ≠ (.slice Ao67 y383.length co67 : Value).ownBlock ∧ some k_ ≠ (.slice Ao68 y386.length co68 : Value).ownBlock ∧ some k_ ≠ (v391 : Value).ownBlock ∧ some k_ ≠ (v395 : Value).ownBlock ∧ some k_ ≠ (.slice Ao73 y397.length co73 : Value).ownBlock ∧ some k_ ≠ (v403 : Value).ownBlock ∧ some k_ ≠ (v405 : Value).ownBlock ∧ some k_ ≠ (v409 : Value).ownBlock ∧ some k_ ≠ (.slice Ao78 y411.length co78 : Value).ownBlock ∧ some k_ ≠ (v416 : Value).ownBlock ∧ some k_ ≠ (v423 : Value).ownBlock ∧ some k_ ≠ (s_.1 : Value).ownBlock ∧ some k_ ≠ (s_.2 : Value).ownBlock) (.slice Ao82 y418.length co82) y418) ∧ (Kd.R (Kd.int .u64) 32 w' w.heap.size (fun k_ => some k_ ≠ (.slice Ao67 y383.length co67 : Value).ownBlock ∧ some k_ ≠ (.slice Ao68 y386.length co68 : Value).ownBlock ∧ some k_ ≠ (v391 : Value).ownBlock ∧ some k_ ≠ (v395 : Value).ownBlock ∧ some k_ ≠ (.slice Ao73 y397.length co73 : Value).ownBlock ∧ some k_ ≠ (v403 : Value).ownBlock ∧ some k_ ≠ (v405 : Value).ownBlock ∧ some k_ ≠ (v409 : Value).ownBlock ∧ some k_ ≠ (.slice Ao78 y411.length co78 : Value).ownBlock ∧ some k_ ≠ (v416 : Value).ownBlock ∧ some k_ ≠ (.slice Ao82 y418.length co82 : Value).ownBlock ∧ some k_ ≠ (s_.1 : Value).ownBlock ∧ some k_ ≠ (s_.2 : Value).ownBlock) v423 t421) ∧ (Kd.R (Kd.int .u64) 32 w' w.heap.size (fun k_ => some k_ ≠ (.slice Ao67 y383.length co67 : Value).ownBlock ∧ some k_ ≠ (.slice Ao68 y386.length co68 : Value).ownBlock ∧ some k_ ≠ (v391 : Value).ownBlock ∧ some k_ ≠ (v395 : Value).ownBlock ∧ some k_ ≠ (.slice Ao73 y397.length co73 : Value).ownBlock ∧ some k_ ≠ (v403 : Value).ownBlock ∧ some k_ ≠ (v405 : Value).ownBlock ∧ some k_ ≠ (v409 : Value).ownBlock ∧ some k_ ≠ (.slice Ao78 y411.length co78 : Value).ownBlock ∧ some k_ ≠ (v416 : Value).ownBlock ∧ some k_ ≠ (.slice Ao82 y418.length co82 : Value).ownBlock ∧ some k_ ≠ (v423 : Value).ownBlock ∧ some k_ ≠ (s_.2 : Value).ownBlock) s_.1 y425) ∧ (Kd.R (Kd.int .u64) 32 w' w.heap.size (fun k_ => some k_ ≠ (.slice Ao67 y383.length co67 : Value).ownBlock ∧ some k_ ≠ (.slice Ao68 y386.length co68 : Value).ownBlock ∧ some k_ ≠ (v391 : Value).ownBlock ∧ some k_ ≠ (v395 : Value).ownBlock ∧ some k_ ≠ (.slice Ao73 y397.length co73 : Value).ownBlock ∧ some k_ ≠ (v403 : Value).ownBlock ∧ some k_ ≠ (v405 : Value).ownBlock ∧ some k_ ≠ (v409 : Value).ownBlock ∧ some k_ ≠ (.slice Ao78 y411.length co78 : Value).ownBlock ∧ some k_ ≠ (v416 : Value).ownBlock ∧ some k_ ≠ (.slice Ao82 y418.length co82 : Value).ownBlock ∧ some k_ ≠ (v423 : Value).ownBlock ∧ some k_ ≠ (s_.1 : Value).ownBlock) s_.2 y428) ∧ (Below w.heap.size w w')) ?_ ?_
        rotate_left
        ·intro hCont
         refine two_ (i := 0) (j := 1) (Ni := some 90) (Nj := some 91) (bv 8 1) (bv 8 2) rfl rfl rfl rfl (two_of HT_.out (by kernel_rfl)) (by decide) (by decide) (fun K hK => ?_) (fun K hK => ?_)
         ·skip
          refine Kd.R_make_step (Kd.int .u64) _ 32 (by rfl) (N := 90) rfl 22 _ _ rfl 1025 ?hx ?hy Tryd.underlying22 (.int .u64 0) 8 info32 rfl (by decide) (by omega) 0 (ok := fun _ => True) (okp := fun _ => True) rfl (fun _ hk => hk) trivial (by omega) (by omega) (Below.refl _ _) (Nat.le_refl _) ?_
          (case hx => first | rfl)
          (case hy => first | rfl)
          intro v426 w85 ho86 hb hg_ hnew_
          clear hg_ hnew_
          (first | rw [← Ny425.out] at ho86 | (simp only [Int.reduceToNat] at ho86; rw [← Ny425.out] at ho86))
          refine nx16_ (R_elder' (rU_ HO385.out) (R_base ho86) hb) (R_elder' (rU_ HO388.out) (R_base ho86) hb) (R_elder' (rU_ HO392.out) (R_base ho86) hb) (R_elder' (rU_ HO396.out) (R_base ho86) hb) (R_elder' (rU_ HO399.out) (R_base ho86) hb) (R_elder' (rU_ HO404.out) (R_base ho86) hb) (R_elder' (rU_ HO406.out) (R_base ho86) hb) (R_elder' (rU_ HO410.out) (R_base ho86) hb) (R_elder' (rU_ HO413.out) (R_base ho86) hb) (R_elder' (rU_ HO417.out) (R_base ho86) hb) (R_elder' (rU_ HO420.out) (R_base ho86) hb) (R_elder' (rU_ HO424.out) (R_base ho86) hb) (R_lower (R_new' (R_new' (R_new' (R_new' (R_new' (R_new' (R_new' (R_new' (R_new' (R_new' (R_new' (R_new' ho86 (R_lt (rU_ HO385.out))) (R_lt (rU_ HO388.out))) (R_lt (rU_ HO392.out))) (R_lt (rU_ HO396.out))) (R_lt (rU_ HO399.out))) (R_lt (rU_ HO404.out))) (R_lt (rU_ HO406.out))) (R_lt (rU_ HO410.out))) (R_lt (rU_ HO413.out))) (R_lt (rU_ HO417.out))) (R_lt (rU_ HO420.out))) (R_lt (rU_ HO424.out))) (below_size (bU_ HB.out))) (C_below (by repeat (first | (with_reducible exact HR352_0.out) | (with_reducible refine Kd.C_alloc ?_ _) | (with_reducible refine Kd.C_drewN ?_ _) | (with_reducible refine Kd.C_drew ?_) | exact HR352_0.out)) hb) (C_below (by repeat (first | (with_reducible exact HR357_0.out) | (with_reducible refine Kd.C_alloc ?_ _) | (with_reducible refine Kd.C_drewN ?_ _) | (with_reducible refine Kd.C_drew ?_) | exact HR357_0.out)) hb) (below_step (bU_ HB.out) hb) ?_
          clear HO385 HO388 HO392 HO396 HO399 HO404 HO406 HO410 HO413 HO417 HO420 HO424 HR352_0 HR357_0 HB
          intro HO385 HO388 HO392 HO396 HO399 HO404 HO406 HO410 HO413 HO417 HO420 HO424 HO427 HR352_0 HR357_0 HB
          clear hb ho86
          refine hK.out _ _ trivial (fun hHeld => ?_)
          clear hK K
          refine norm_ (a' := ?_) ?_ ?_
          rotate_left
          ·show Act.put _ (some 90) _ = _
           simp only [Act.put, s1_, s2_, s3_, i64_w, i32_w]
           rfl
          refine oq_ 1 91 8 3 HT_.out fun K hK => ?_
          refine Kd.R_make_step (Kd.int .u64) _ 32 (by rfl) (N := 91) rfl 22 _ _ rfl 1025 ?hx ?hy Tryd.underlying22 (.int .u64 0) 8 info32 rfl (by decide) (by omega) 0 (ok := fun _ => True) (okp := fun _ => True) rfl (fun _ hk => hk) trivial (by omega) (by omega) (Below.refl _ _) (Nat.le_refl _) ?_
          (case hx => first | rfl)
          (case hy => first | rfl)
          intro v429 w87 ho88 hb hg_ hnew_
          clear hg_ hnew_
          (first | rw [← Ny428.out] at ho88 | (simp only [Int.reduceToNat] at ho88; rw [← Ny428.out] at ho88))
          refine nx17_ (R_elder' (rU_ HO385.out) (R_base ho88) hb) (R_elder' (rU_ HO388.out) (R_base ho88) hb) (R_elder' (rU_ HO392.out) (R_base ho88) hb) (R_elder' (rU_ HO396.out) (R_base ho88) hb) (R_elder' (rU_ HO399.out) (R_base ho88) hb) (R_elder' (rU_ HO404.out) (R_base ho88) hb) (R_elder' (rU_ HO406.out) (R_base ho88) hb) (R_elder' (rU_ HO410.out) (R_base ho88) hb) (R_elder' (rU_ HO413.out) (R_base ho88) hb) (R_elder' (rU_ HO417.out) (R_base ho88) hb) (R_elder' (rU_ HO420.out) (R_base ho88) hb) (R_elder' (rU_ HO424.out) (R_base ho88) hb) (R_elder' (rU_ HO427.out) (R_base ho88) hb) (R_lower (R_new' (R_new' (R_new' (R_new' (R_new' (R_new' (R_new' (R_new' (R_new' (R_new' (R_new' (R_new' (R_new' ho88 (R_lt (rU_ HO385.out))) (R_lt (rU_ HO388.out))) (R_lt (rU_ HO392.out))) (R_lt (rU_ HO396.out))) (R_lt (rU_ HO399.out))) (R_lt (rU_ HO404.out))) (R_lt (rU_ HO406.out))) (R_lt (rU_ HO410.out))) (R_lt (rU_ HO413.out))) (R_lt (rU_ HO417.out))) (R_lt (rU_ HO420.out))) (R_lt (rU_ HO424.out))) (R_lt (rU_ HO427.out))) (below_size (bU_ HB.out))) (C_below (by repeat (first | (with_reducible exact HR352_0.out) | (with_reducible refine Kd.C_alloc ?_ _) | (with_reducible refine Kd.C_drewN ?_ _) | (with_reducible refine Kd.C_drew ?_) | exact HR352_0.out)) hb) (C_below (by repeat (first | (with_reducible exact HR357_0.out) | (with_reducible refine Kd.C_alloc ?_ _) | (with_reducible refine Kd.C_drewN ?_ _) | (with_reducible refine Kd.C_drew ?_) | exact HR357_0.out)) hb) (below_step (bU_ HB.out) hb) ?_
          clear HO385 HO388 HO392 HO396 HO399 HO404 HO406 HO410 HO413 HO417 HO420 HO424 HO427 HR352_0 HR357_0 HB
          intro HO385 HO388 HO392 HO396 HO399 HO404 HO406 HO410 HO413 HO417 HO420 HO424 HO427 HO430 HR352_0 HR357_0 HB
          clear hb ho88
          refine hK.out _ _ trivial (fun hHeld => ?_)
          clear hK K
          refine norm_ (a' := ?_) ?_ ?_
          rotate_left
          ·show Act.put _ (some 91) _ = _
           simp only [Act.put, s1_, s2_, s3_, i64_w, i32_w]
           rfl
          exact norm_ (by simp only [putAll, Act.put, List.setIfInBounds_toArray, List.set_cons_zero, List.set_cons_succ]) (hCont (v426, v429) _ ⟨(R_mono (rU_ HO385.out) (fun _ hk => ⟨hk.1.1.1.1.1.1.1.1.1.1.1.1.2, ⟨hk.1.1.1.1.1.1.1.1.1.1.1.2, ⟨hk.1.1.1.1.1.1.1.1.1.1.2, ⟨hk.1.1.1.1.1.1.1.1.1.2, ⟨hk.1.1.1.1.1.1.1.1.2, ⟨hk.1.1.1.1.1.1.1.2, ⟨hk.1.1.1.1.1.1.2, ⟨hk.1.1.1.1.1.2, ⟨hk.1.1.1.1.2, ⟨hk.1.1.1.2, ⟨hk.1.1.2, ⟨hk.1.2, hk.2⟩⟩⟩⟩⟩⟩⟩⟩⟩⟩⟩⟩)), (R_mono (rU_ HO388.out) (fun _ hk => ⟨hk.1.1.1.1.1.1.1.1.1.1.1.1.2, ⟨hk.1.1.1.1.1.1.1.1.1.1.1.2, ⟨hk.1.1.1.1.1.1.1.1.1.1.2, ⟨hk.1.1.1.1.1.1.1.1.1.2, ⟨hk.1.1.1.1.1.1.1.1.2, ⟨hk.1.1.1.1.1.1.1.2, ⟨hk.1.1.1.1.1.1.2, ⟨hk.1.1.1.1.1.2, ⟨hk.1.1.1.1.2, ⟨hk.1.1.1.2, ⟨hk.1.1.2, ⟨hk.1.2, hk.2⟩⟩⟩⟩⟩⟩⟩⟩⟩⟩⟩⟩)), (R_mono (rU_ HO392.out) (fun _ hk => ⟨hk.1.1.1.1.1.1.1.1.1.1.1.1.2, ⟨hk.1.1.1.1.1.1.1.1.1.1.1.2, ⟨hk.1.1.1.1.1.1.1.1.1.1.2, ⟨hk.1.1.1.1.1.1.1.1.1.2, ⟨hk.1.1.1.1.1.1.1.1.2, ⟨hk.1.1.1.1.1.1.1.2, ⟨hk.1.1.1.1.1.1.2, ⟨hk.1.1.1.1.1.2, ⟨hk.1.1.1.1.2, ⟨hk.1.1.1.2, ⟨hk.1.1.2, ⟨hk.1.2, hk.2⟩⟩⟩⟩⟩⟩⟩⟩⟩⟩⟩⟩)), (R_mono (rU_ HO396.out) (fun _ hk => ⟨hk.1.1.1.1.1.1.1.1.1.1.1.1.2, ⟨hk.1.1.1.1.1.1.1.1.1.1.1.2, ⟨hk.1.1.1.1.1.1.1.1.1.1.2, ⟨hk.1.1.1.1.1.1.1.1.1.2, ⟨hk.1.1.1.1.1.1.1.1.2, ⟨hk.1.1.1.1.1.1.1.2, ⟨hk.1.1.1.1.1.1.2, ⟨hk.1.1.1.1.1.2, ⟨hk.1.1.1.1.2, ⟨hk.1.1.1.2, ⟨hk.1.1.2, ⟨hk.1.2, hk.2⟩⟩⟩⟩⟩⟩⟩⟩⟩⟩⟩⟩)), (R_mono (rU_ HO399.out) (fun _ hk => ⟨hk.1.1.1.1.1.1.1.1.1.1.1.1.2, ⟨hk.1.1.1.1.1.1.1.1.1.1.1.2, ⟨hk.1.1.1.1.1.1.1.1.1.1.2, ⟨hk.1.1.1.1.1.1.1.1.1.2, ⟨hk.1.1.1.1.1.1.1.1.2, ⟨hk.1.1.1.1.1.1.1.2, ⟨hk.1.1.1.1.1.1.2, ⟨hk.1.1.1.1.1.2, ⟨hk.1.1.1.1.2, ⟨hk.1.1.1.2, ⟨hk.1.1.2, ⟨hk.1.2, hk.2⟩⟩⟩⟩⟩⟩⟩⟩⟩⟩⟩⟩)), (R_mono (rU_ HO404.out) (fun _ hk => ⟨hk.1.1.1.1.1.1.1.1.1.1.1.2, ⟨hk.1.1.1.1.1.1.1.1.1.1.2, ⟨hk.1.1.1.1.1.1.1.1.1.2, ⟨hk.1.1.1.1.1.1.1.1.2, ⟨hk.1.1.1.1.1.1.1.2, ⟨hk.1.1.1.1.1.1.1.1.1.1.1.1, ⟨hk.1.1.1.1.1.1.2, ⟨hk.1.1.1.1.1.2, ⟨hk.1.1.1.1.2, ⟨hk.1.1.1.2, ⟨hk.1.1.2, ⟨hk.1.2, hk.2⟩⟩⟩⟩⟩⟩⟩⟩⟩⟩⟩⟩)), (R_mono (rU_ HO406.out) (fun _ hk => ⟨hk.1.1.1.1.1.1.1.1.1.1.1.2, ⟨hk.1.1.1.1.1.1.1.1.1.1.2, ⟨hk.1.1.1.1.1.1.1.1.1.2, ⟨hk.1.1.1.1.1.1.1.1.2, ⟨hk.1.1.1.1.1.1.1.2, ⟨hk.1.1.1.1.1.1.1.1.1.1.1.1, ⟨hk.1.1.1.1.1.1.2, ⟨hk.1.1.1.1.1.2, ⟨hk.1.1.1.1.2, ⟨hk.1.1.1.2, ⟨hk.1.1.2, ⟨hk.1.2, hk.2⟩⟩⟩⟩⟩⟩⟩⟩⟩⟩⟩⟩)), (R_mono (rU_ HO410.out) (fun _ hk => ⟨hk.1.1.1.1.1.1.1.1.1.1.1.1.2, ⟨hk.1.1.1.1.1.1.1.1.1.1.1.2, ⟨hk.1.1.1.1.1.1.1.1.1.1.2, ⟨hk.1.1.1.1.1.1.1.1.1.2, ⟨hk.1.1.1.1.1.1.1.1.2, ⟨hk.1.1.1.1.1.1.1.2, ⟨hk.1.1.1.1.1.1.2, ⟨hk.1.1.1.1.1.2, ⟨hk.1.1.1.1.2, ⟨hk.1.1.1.2, ⟨hk.1.1.2, ⟨hk.1.2, hk.2⟩⟩⟩⟩⟩⟩⟩⟩⟩⟩⟩⟩)), (R_mono (rU_ HO413.out) (fun _ hk => ⟨hk.1.1.1.1.1.1.1.1.1.1.1.1.2, ⟨hk.1.1.1.1.1.1.1.1.1.1.1.2, ⟨hk.1.1.1.1.1.1.1.1.1.1.2, ⟨hk.1.1.1.1.1.1.1.1.1.2, ⟨hk.1.1.1.1.1.1.1.1.2, ⟨hk.1.1.1.1.1.1.1.2, ⟨hk.1.1.1.1.1.1.2, ⟨hk.1.1.1.1.1.2, ⟨hk.1.1.1.1.2, ⟨hk.1.1.1.2, ⟨hk.1.1.2, ⟨hk.1.2, hk.2⟩⟩⟩⟩⟩⟩⟩⟩⟩⟩⟩⟩)), (R_mono (rU_ HO417.out) (fun _ hk => ⟨hk.1.1.1.1.1.1.1.1.1.1.1.1.2, ⟨hk.1.1.1.1.1.1.1.1.1.1.1.2, ⟨hk.1.1.1.1.1.1.1.1.1.1.2, ⟨hk.1.1.1.1.1.1.1.1.1.2, ⟨hk.1.1.1.1.1.1.1.1.2, ⟨hk.1.1.1.1.1.1.1.2, ⟨hk.1.1.1.1.1.1.2, ⟨hk.1.1.1.1.1.2, ⟨hk.1.1.1.1.2, ⟨hk.1.1.1.2, ⟨hk.1.1.2, ⟨hk.1.2, hk.2⟩⟩⟩⟩⟩⟩⟩⟩⟩⟩⟩⟩)), (R_mono (rU_ HO420.out) (fun _ hk => ⟨hk.1.1.1.1.1.1.1.1.1.1.1.1.2, ⟨hk.1.1.1.1.1.1.1.1.1.1.1.2, ⟨hk.1.1.1.1.1.1.1.1.1.1.2, ⟨hk.1.1.1.1.1.1.1.1.1.2, ⟨hk.1.1.1.1.1.1.1.1.2, ⟨hk.1.1.1.1.1.1.1.2, ⟨hk.1.1.1.1.1.1.2, ⟨hk.1.1.1.1.1.2, ⟨hk.1.1.1.1.2, ⟨hk.1.1.1.2, ⟨hk.1.1.2, ⟨hk.1.2, hk.2⟩⟩⟩⟩⟩⟩⟩⟩⟩⟩⟩⟩)), (R_mono (rU_ HO424.out) (fun _ hk => ⟨hk.1.1.1.1.1.1.1.1.1.1.1.1.2, ⟨hk.1.1.1.1.1.1.1.1.1.1.1.2, ⟨hk.1.1.1.1.1.1.1.1.1.1.2, ⟨hk.1.1.1.1.1.1.1.1.1.2, ⟨hk.1.1.1.1.1.1.1.1.2, ⟨hk.1.1.1.1.1.1.1.2, ⟨hk.1.1.1.1.1.1.2, ⟨hk.1.1.1.1.1.2, ⟨hk.1.1.1.1.2, ⟨hk.1.1.1.2, ⟨hk.1.1.2, ⟨hk.1.2, hk.2⟩⟩⟩⟩⟩⟩⟩⟩⟩⟩⟩⟩)), (R_mono (rU_ HO427.out) (fun _ hk => ⟨hk.1.1.1.1.1.1.1.1.1.1.1.1.2, ⟨hk.1.1.1.1.1.1.1.1.1.1.1.2, ⟨hk.1.1.1.1.1.1.1.1.1.1.2, ⟨hk.1.1.1.1.1.1.1.1.1.2, ⟨hk.1.1.1.1.1.1.1.1.2, ⟨hk.1.1.1.1.1.1.1.2, ⟨hk.1.1.1.1.1.1.2, ⟨hk.1.1.1.1.1.2, ⟨hk.1.1.1.1.2, ⟨hk.1.1.1.2, ⟨hk.1.1.2, ⟨hk.1.2, hk.2⟩⟩⟩⟩⟩⟩⟩⟩⟩⟩⟩⟩)), (R_mono (rU_ HO430.out) (fun _ hk => ⟨hk.1.1.1.1.1.1.1.1.1.1.1.1.2, ⟨hk.1.1.1.1.1.1.1.1.1.1.1.2, ⟨hk.1.1.1.1.1.1.1.1.1.1.2, ⟨hk.1.1.1.1.1.1.1.1.1.2, ⟨hk.1.1.1.1.1.1.1.1.2, ⟨hk.1.1.1.1.1.1.1.2, ⟨hk.1.1.1.1.1.1.2, ⟨hk.1.1.1.1.1.2, ⟨hk.1.1.1.1.2, ⟨hk.1.1.1.2, ⟨hk.1.1.2, ⟨hk.1.2, hk.2⟩⟩⟩⟩⟩⟩⟩⟩⟩⟩⟩⟩)), (bU_ HB.out)⟩)
         skip
         refine Kd.R_make_step (Kd.int .u64) _ 32 (by rfl) (N := 91) rfl 22 _ _ rfl 1025 ?hx ?hy Tryd.underlying22 (.int .u64 0) 8 info32 rfl (by decide) (by omega) 0 (ok := fun _ => True) (okp := fun _ => True) rfl (fun _ hk => hk) trivial (by omega) (by omega) (Below.refl _ _) (Nat.le_refl _) ?_
         (case hx => first | rfl)
         (case hy => first | rfl)
         intro v429 w85 ho86 hb hg_ hnew_
         clear hg_ hnew_
         (first | rw [← Ny428.out] at ho86 | (simp only [Int.reduceToNat] at ho86; rw [← Ny428.out] at ho86))
         refine nx16_ (R_elder' (rU_ HO385.out) (R_base ho86) hb) (R_elder' (rU_ HO388.out) (R_base ho86) hb) (R_elder' (rU_ HO392.out) (R_base ho86) hb) (R_elder' (rU_ HO396.out) (R_base ho86) hb) (R_elder' (rU_ HO399.out) (R_base ho86) hb) (R_elder' (rU_ HO404.out) (R_base ho86) hb) (R_elder' (rU_ HO406.out) (R_base ho86) hb) (R_elder' (rU_ HO410.out) (R_base ho86) hb) (R_elder' (rU_ HO413.out) (R_base ho86) hb) (R_elder' (rU_ HO417.out) (R_base ho86) hb) (R_elder' (rU_ HO420.out) (R_base ho86) hb) (R_elder' (rU_ HO424.out) (R_base ho86) hb) (R_lower (R_new' (R_new' (R_new' (R_new' (R_new' (R_new' (R_new' (R_new' (R_new' (R_new' (R_new' (R_new' ho86 (R_lt (rU_ HO385.out))) (R_lt (rU_ HO388.out))) (R_lt (rU_ HO392.out))) (R_lt (rU_ HO396.out))) (R_lt (rU_ HO399.out))) (R_lt (rU_ HO404.out))) (R_lt (rU_ HO406.out))) (R_lt (rU_ HO410.out))) (R_lt (rU_ HO413.out))) (R_lt (rU_ HO417.out))) (R_lt (rU_ HO420.out))) (R_lt (rU_ HO424.out))) (below_size (bU_ HB.out))) (C_below (by repeat (first | (with_reducible exact HR352_0.out) | (with_reducible refine Kd.C_alloc ?_ _) | (with_reducible refine Kd.C_drewN ?_ _) | (with_reducible refine Kd.C_drew ?_) | exact HR352_0.out)) hb) (C_below (by repeat (first | (with_reducible exact HR357_0.out) | (with_reducible refine Kd.C_alloc ?_ _) | (with_reducible refine Kd.C_drewN ?_ _) | (with_reducible refine Kd.C_drew ?_) | exact HR357_0.out)) hb) (below_step (bU_ HB.out) hb) ?_
         clear HO385 HO388 HO392 HO396 HO399 HO404 HO406 HO410 HO413 HO417 HO420 HO424 HR352_0 HR357_0 HB
         intro HO385 HO388 HO392 HO396 HO399 HO404 HO406 HO410 HO413 HO417 HO420 HO424 HO430 HR352_0 HR357_0 HB
         clear hb ho86
         refine hK.out _ _ trivial (fun hHeld => ?_)
         clear hK K
         refine norm_ (a' := ?_) ?_ ?_
         rotate_left
         ·show Act.put _ (some 91) _ = _
          simp only [Act.put, s1_, s2_, s3_, i64_w, i32_w]
          rfl
         refine oq_ 0 90 8 3 HT_.out fun K hK => ?_
         refine Kd.R_make_step (Kd.int .u64) _ 32 (by rfl) (N := 90) rfl 22 _ _ rfl 1025 ?hx ?hy Tryd.underlying22 (.int .u64 0) 8 info32 rfl (by decide) (by omega) 0 (ok := fun _ => True) (okp := fun _ => True) rfl (fun _ hk => hk) trivial (by omega) (by omega) (Below.refl _ _) (Nat.le_refl _) ?_
         (case hx => first | rfl)
         (case hy => first | rfl)
         intro v426 w87 ho88 hb hg_ hnew_
         clear hg_ hnew_
         (first | rw [← Ny425.out] at ho88 | (simp only [Int.reduceToNat] at ho88; rw [← Ny425.out] at ho88))
         refine nx17_ (R_elder' (rU_ HO385.out) (R_base ho88) hb) (R_elder' (rU_ HO388.out) (R_base ho88) hb) (R_elder' (rU_ HO392.out) (R_base ho88) hb) (R_elder' (rU_ HO396.out) (R_base ho88) hb) (R_elder' (rU_ HO399.out) (R_base ho88) hb) (R_elder' (rU_ HO404.out) (R_base ho88) hb) (R_elder' (rU_ HO406.out) (R_base ho88) hb) (R_elder' (rU_ HO410.out) (R_base ho88) hb) (R_elder' (rU_ HO413.out) (R_base ho88) hb) (R_elder' (rU_ HO417.out) (R_base ho88) hb) (R_elder' (rU_ HO420.out) (R_base ho88) hb) (R_elder' (rU_ HO424.out) (R_base ho88) hb) (R_elder' (rU_ HO430.out) (R_base ho88) hb) (R_lower (R_new' (R_new' (R_new' (R_new' (R_new' (R_new' (R_new' (R_new' (R_new' (R_new' (R_new' (R_new' (R_new' ho88 (R_lt (rU_ HO385.out))) (R_lt (rU_ HO388.out))) (R_lt (rU_ HO392.out))) (R_lt (rU_ HO396.out))) (R_lt (rU_ HO399.out))) (R_lt (rU_ HO404.out))) (R_lt (rU_ HO406.out))) (R_lt (rU_ HO410.out))) (R_lt (rU_ HO413.out))) (R_lt (rU_ HO417.out))) (R_lt (rU_ HO420.out))) (R_lt (rU_ HO424.out))) (R_lt (rU_ HO430.out))) (below_size (bU_ HB.out))) (C_below (by repeat (first | (with_reducible exact HR352_0.out) | (with_reducible refine Kd.C_alloc ?_ _) | (with_reducible refine Kd.C_drewN ?_ _) | (with_reducible refine Kd.C_drew ?_) | exact HR352_0.out)) hb) (C_below (by repeat (first | (with_reducible exact HR357_0.out) | (with_reducible refine Kd.C_alloc ?_ _) | (with_reducible refine Kd.C_drewN ?_ _) | (with_reducible refine Kd.C_drew ?_) | exact HR357_0.out)) hb) (below_step (bU_ HB.out) hb) ?_
         clear HO385 HO388 HO392 HO396 HO399 HO404 HO406 HO410 HO413 HO417 HO420 HO424 HO430 HR352_0 HR357_0 HB
         intro HO385 HO388 HO392 HO396 HO399 HO404 HO406 HO410 HO413 HO417 HO420 HO424 HO430 HO427 HR352_0 HR357_0 HB
         clear hb ho88
         refine hK.out _ _ trivial (fun hHeld => ?_)
         clear hK K
         refine norm_ (a' := ?_) ?_ ?_
         rotate_left
         ·show Act.put _ (some 90) _ = _
          simp only [Act.put, s1_, s2_, s3_, i64_w, i32_w]
          rfl
         exact norm_ (by simp only [putAll, Act.put, List.setIfInBounds_toArray, List.set_cons_zero, List.set_cons_succ]) (hCont (v426, v429) _ ⟨(R_mono (rU_ HO385.out) (fun _ hk => ⟨hk.1.1.1.1.1.1.1.1.1.1.1.1.2, ⟨hk.1.1.1.1.1.1.1.1.1.1.1.2, ⟨hk.1.1.1.1.1.1.1.1.1.1.2, ⟨hk.1.1.1.1.1.1.1.1.1.2, ⟨hk.1.1.1.1.1.1.1.1.2, ⟨hk.1.1.1.1.1.1.1.2, ⟨hk.1.1.1.1.1.1.2, ⟨hk.1.1.1.1.1.2, ⟨hk.1.1.1.1.2, ⟨hk.1.1.1.2, ⟨hk.1.1.2, ⟨hk.2, hk.1.2⟩⟩⟩⟩⟩⟩⟩⟩⟩⟩⟩⟩)), (R_mono (rU_ HO388.out) (fun _ hk => ⟨hk.1.1.1.1.1.1.1.1.1.1.1.1.2, ⟨hk.1.1.1.1.1.1.1.1.1.1.1.2, ⟨hk.1.1.1.1.1.1.1.1.1.1.2, ⟨hk.1.1.1.1.1.1.1.1.1.2, ⟨hk.1.1.1.1.1.1.1.1.2, ⟨hk.1.1.1.1.1.1.1.2, ⟨hk.1.1.1.1.1.1.2, ⟨hk.1.1.1.1.1.2, ⟨hk.1.1.1.1.2, ⟨hk.1.1.1.2, ⟨hk.1.1.2, ⟨hk.2, hk.1.2⟩⟩⟩⟩⟩⟩⟩⟩⟩⟩⟩⟩)), (R_mono (rU_ HO392.out) (fun _ hk => ⟨hk.1.1.1.1.1.1.1.1.1.1.1.1.2, ⟨hk.1.1.1.1.1.1.1.1.1.1.1.2, ⟨hk.1.1.1.1.1.1.1.1.1.1.2, ⟨hk.1.1.1.1.1.1.1.1.1.2, ⟨hk.1.1.1.1.1.1.1.1.2, ⟨hk.1.1.1.1.1.1.1.2, ⟨hk.1.1.1.1.1.1.2, ⟨hk.1.1.1.1.1.2, ⟨hk.1.1.1.1.2, ⟨hk.1.1.1.2, ⟨hk.1.1.2, ⟨hk.2, hk.1.2⟩⟩⟩⟩⟩⟩⟩⟩⟩⟩⟩⟩)), (R_mono (rU_ HO396.out) (fun _ hk => ⟨hk.1.1.1.1.1.1.1.1.1.1.1.1.2, ⟨hk.1.1.1.1.1.1.1.1.1.1.1.2, ⟨hk.1.1.1.1.1.1.1.1.1.1.2, ⟨hk.1.1.1.1.1.1.1.1.1.2, ⟨hk.1.1.1.1.1.1.1.1.2, ⟨hk.1.1.1.1.1.1.1.2, ⟨hk.1.1.1.1.1.1.2, ⟨hk.1.1.1.1.1.2, ⟨hk.1.1.1.1.2, ⟨hk.1.1.1.2, ⟨hk.1.1.2, ⟨hk.2, hk.1.2⟩⟩⟩⟩⟩⟩⟩⟩⟩⟩⟩⟩)), (R_mono (rU_ HO399.out) (fun _ hk => ⟨hk.1.1.1.1.1.1.1.1.1.1.1.1.2, ⟨hk.1.1.1.1.1.1.1.1.1.1.1.2, ⟨hk.1.1.1.1.1.1.1.1.1.1.2, ⟨hk.1.1.1.1.1.1.1.1.1.2, ⟨hk.1.1.1.1.1.1.1.1.2, ⟨hk.1.1.1.1.1.1.1.2, ⟨hk.1.1.1.1.1.1.2, ⟨hk.1.1.1.1.1.2, ⟨hk.1.1.1.1.2, ⟨hk.1.1.1.2, ⟨hk.1.1.2, ⟨hk.2, hk.1.2⟩⟩⟩⟩⟩⟩⟩⟩⟩⟩⟩⟩)), (R_mono (rU_ HO404.out) (fun _ hk => ⟨hk.1.1.1.1.1.1.1.1.1.1.1.2, ⟨hk.1.1.1.1.1.1.1.1.1.1.2, ⟨hk.1.1.1.1.1.1.1.1.1.2, ⟨hk.1.1.1.1.1.1.1.1.2, ⟨hk.1.1.1.1.1.1.1.2, ⟨hk.1.1.1.1.1.1.1.1.1.1.1.1, ⟨hk.1.1.1.1.1.1.2, ⟨hk.1.1.1.1.1.2, ⟨hk.1.1.1.1.2, ⟨hk.1.1.1.2, ⟨hk.1.1.2, ⟨hk.2, hk.1.2⟩⟩⟩⟩⟩⟩⟩⟩⟩⟩⟩⟩)), (R_mono (rU_ HO406.out) (fun _ hk => ⟨hk.1.1.1.1.1.1.1.1.1.1.1.2, ⟨hk.1.1.1.1.1.1.1.1.1.1.2, ⟨hk.1.1.1.1.1.1.1.1.1.2, ⟨hk.1.1.1.1.1.1.1.1.2, ⟨hk.1.1.1.1.1.1.1.2, ⟨hk.1.1.1.1.1.1.1.1.1.1.1.1, ⟨hk.1.1.1.1.1.1.2, ⟨hk.1.1.1.1.1.2, ⟨hk.1.1.1.1.2, ⟨hk.1.1.1.2, ⟨hk.1.1.2, ⟨hk.2, hk.1.2⟩⟩⟩⟩⟩⟩⟩⟩⟩⟩⟩⟩)), (R_mono (rU_ HO410.out) (fun _ hk => ⟨hk.1.1.1.1.1.1.1.1.1.1.1.1.2, ⟨hk.1.1.1.1.1.1.1.1.1.1.1.2, ⟨hk.1.1.1.1.1.1.1.1.1.1.2, ⟨hk.1.1.1.1.1.1.1.1.1.2, ⟨hk.1.1.1.1.1.1.1.1.2, ⟨hk.1.1.1.1.1.1.1.2, ⟨hk.1.1.1.1.1.1.2, ⟨hk.1.1.1.1.1.2, ⟨hk.1.1.1.1.2, ⟨hk.1.1.1.2, ⟨hk.1.1.2, ⟨hk.2, hk.1.2⟩⟩⟩⟩⟩⟩⟩⟩⟩⟩⟩⟩)), (R_mono (rU_ HO413.out) (fun _ hk => ⟨hk.1.1.1.1.1.1.1.1.1.1.1.1.2, ⟨hk.1.1.1.1.1.1.1.1.1.1.1.2, ⟨hk.1.1.1.1.1.1.1.1.1.1.2, ⟨hk.1.1.1.1.1.1.1.1.1.2, ⟨hk.1.1.1.1.1.1.1.1.2, ⟨hk.1.1.1.1.1.1.1.2, ⟨hk.1.1.1.1.1.1.2, ⟨hk.1.1.1.1.1.2, ⟨hk.1.1.1.1.2, ⟨hk.1.1.1.2, ⟨hk.1.1.2, ⟨hk.2, hk.1.2⟩⟩⟩⟩⟩⟩⟩⟩⟩⟩⟩⟩)), (R_mono (rU_ HO417.out) (fun _ hk => ⟨hk.1.1.1.1.1.1.1.1.1.1.1.1.2, ⟨hk.1.1.1.1.1.1.1.1.1.1.1.2, ⟨hk.1.1.1.1.1.1.1.1.1.1.2, ⟨hk.1.1.1.1.1.1.1.1.1.2, ⟨hk.1.1.1.1.1.1.1.1.2, ⟨hk.1.1.1.1.1.1.1.2, ⟨hk.1.1.1.1.1.1.2, ⟨hk.1.1.1.1.1.2, ⟨hk.1.1.1.1.2, ⟨hk.1.1.1.2, ⟨hk.1.1.2, ⟨hk.2, hk.1.2⟩⟩⟩⟩⟩⟩⟩⟩⟩⟩⟩⟩)), (R_mono (rU_ HO420.out) (fun _ hk => ⟨hk.1.1.1.1.1.1.1.1.1.1.1.1.2, ⟨hk.1.1.1.1.1.1.1.1.1.1.1.2, ⟨hk.1.1.1.1.1.1.1.1.1.1.2, ⟨hk.1.1.1.1.1.1.1.1.1.2, ⟨hk.1.1.1.1.1.1.1.1.2, ⟨hk.1.1.1.1.1.1.1.2, ⟨hk.1.1.1.1.1.1.2, ⟨hk.1.1.1.1.1.2, ⟨hk.1.1.1.1.2, ⟨hk.1.1.1.2, ⟨hk.1.1.2, ⟨hk.2, hk.1.2⟩⟩⟩⟩⟩⟩⟩⟩⟩⟩⟩⟩)), (R_mono (rU_ HO424.out) (fun _ hk => ⟨hk.1.1.1.1.1.1.1.1.1.1.1.1.2, ⟨hk.1.1.1.1.1.1.1.1.1.1.1.2, ⟨hk.1.1.1.1.1.1.1.1.1.1.2, ⟨hk.1.1.1.1.1.1.1.1.1.2, ⟨hk.1.1.1.1.1.1.1.1.2, ⟨hk.1.1.1.1.1.1.1.2, ⟨hk.1.1.1.1.1.1.2, ⟨hk.1.1.1.1.1.2, ⟨hk.1.1.1.1.2, ⟨hk.1.1.1.2, ⟨hk.1.1.2, ⟨hk.2, hk.1.2⟩⟩⟩⟩⟩⟩⟩⟩⟩⟩⟩⟩)), (R_mono (rU_ HO427.out) (fun _ hk => ⟨hk.1.1.1.1.1.1.1.1.1.1.1.1.2, ⟨hk.1.1.1.1.1.1.1.1.1.1.1.2, ⟨hk.1.1.1.1.1.1.1.1.1.1.2, ⟨hk.1.1.1.1.1.1.1.1.1.2, ⟨hk.1.1.1.1.1.1.1.1.2, ⟨hk.1.1.1.1.1.1.1.2, ⟨hk.1.1.1.1.1.1.2, ⟨hk.1.1.1.1.1.2, ⟨hk.1.1.1.1.2, ⟨hk.1.1.1.2, ⟨hk.1.1.2, ⟨hk.1.2, hk.2⟩⟩⟩⟩⟩⟩⟩⟩⟩⟩⟩⟩)), (R_mono (rU_ HO430.out) (fun _ hk => ⟨hk.1.1.1.1.1.1.1.1.1.1.1.1.2, ⟨hk.1.1.1.1.1.1.1.1.1.1.1.2, ⟨hk.1.1.1.1.1.1.1.1.1.1.2, ⟨hk.1.1.1.1.1.1.1.1.1.2, ⟨hk.1.1.1.1.1.1.1.1.2, ⟨hk.1.1.1.1.1.1.1.2, ⟨hk.1.1.1.1.1.1.2, ⟨hk.1.1.1.1.1.2, ⟨hk.1.1.1.1.2, ⟨hk.1.1.1.2, ⟨hk.1.1.2, ⟨hk.1.2, hk.2⟩⟩⟩⟩⟩⟩⟩⟩⟩⟩⟩⟩)), (bU_ HB.out)⟩)
        rintro ⟨v426, v429⟩ w89 ⟨h0_, h1_, h2_, h3_, h4_, h5_, h6_, h7_, h8_, h9_, h10_, h11_, h12_, h13_, h14_⟩
        have n0_ : Aside0 (Kd.R (Kd.int .u64) 32 w89 w.heap.size (fun k_ => some k_ ≠ (.slice Ao68 y386.length co68 : Value).ownBlock ∧ some k_ ≠ (v391 : Value).ownBlock ∧ some k_ ≠ (v395 : Value).ownBlock ∧ some k_ ≠ (.slice Ao73 y397.length co73 : Value).ownBlock ∧ some k_ ≠ (v403 : Value).ownBlock ∧ some k_ ≠ (v405 : Value).ownBlock ∧ some k_ ≠ (v409 : Value).ownBlock ∧ some k_ ≠ (.slice Ao78 y411.length co78 : Value).ownBlock ∧ some k_ ≠ (v416 : Value).ownBlock ∧ some k_ ≠ (.slice Ao82 y418.length co82 : Value).ownBlock ∧ some k_ ≠ (v423 : Value).ownBlock ∧ some k_ ≠ (v426 : Value).ownBlock ∧ some k_ ≠ (v429 : Value).ownBlock) (.slice Ao67 y383.length co67) y383) := ⟨h0_⟩
        have n1_ : Aside0 (Kd.R (Kd.int .u64) 32 w89 w.heap.size (fun k_ => some k_ ≠ (.slice Ao67 y383.length co67 : Value).ownBlock ∧ some k_ ≠ (v391 : Value).ownBlock ∧ some k_ ≠ (v395 : Value).ownBlock ∧ some k_ ≠ (.slice Ao73 y397.length co73 : Value).ownBlock ∧ some k_ ≠ (v403 : Value).ownBlock ∧ some k_ ≠ (v405 : Value).ownBlock ∧ some k_ ≠ (v409 : Value).ownBlock ∧ some k_ ≠ (.slice Ao78 y411.length co78 : Value).ownBlock ∧ some k_ ≠ (v416 : Value).ownBlock ∧ some k_ ≠ (.slice Ao82 y418.length co82 : Value).ownBlock ∧ some k_ ≠ (v423 : Value).ownBlock ∧ some k_ ≠ (v426 : Value).ownBlock ∧ some k_ ≠ (v429 : Value).ownBlock) (.slice Ao68 y386.length co68) y386) := ⟨h1_⟩
        have n2_ : Aside0 (Kd.R (Kd.int .u64) 32 w89 w.heap.size (fun k_ => some k_ ≠ (.slice Ao67 y383.length co67 : Value).ownBlock ∧ some k_ ≠ (.slice Ao68 y386.length co68 : Value).ownBlock ∧ some k_ ≠ (v395 : Value).ownBlock ∧ some k_ ≠ (.slice Ao73 y397.length co73 : Value).ownBlock ∧ some k_ ≠ (v403 : Value).ownBlock ∧ some k_ ≠ (v405 : Value).ownBlock ∧ some k_ ≠ (v409 : Value).ownBlock ∧ some k_ ≠ (.slice Ao78 y411.length co78 : Value).ownBlock ∧ some k_ ≠ (v416 : Value).ownBlock ∧ some k_ ≠ (.slice Ao82 y418.length co82 : Value).ownBlock ∧ some k_ ≠ (v423 : Value).ownBlock ∧ some k_ ≠ (v426 : Value).ownBlock ∧ some k_ ≠ (v429 : Value).ownBlock) v391 t389) := ⟨h2_⟩
        have n3_ : Aside0 (Kd.R (Kd.int .u64) 32 w89 w.heap.size (fun k_ => some k_ ≠ (.slice Ao67 y383.length co67 : Value).ownBlock ∧ some k_ ≠ (.slice Ao68 y386.length co68 : Value).ownBlock ∧ some k_ ≠ (v391 : Value).ownBlock ∧ some k_ ≠ (.slice Ao73 y397.length co73 : Value).ownBlock ∧ some k_ ≠ (v403 : Value).ownBlock ∧ some k_ ≠ (v405 : Value).ownBlock ∧ some k_ ≠ (v409 : Value).ownBlock ∧ some k_ ≠ (.slice Ao78 y411.length co78 : Value).ownBlock ∧ some k_ ≠ (v416 : Value).ownBlock ∧ some k_ ≠ (.slice Ao82 y418.length co82 : Value).ownBlock ∧ some k_ ≠ (v423 : Value).ownBlock ∧ some k_ ≠ (v426 : Value).ownBlock ∧ some k_ ≠ (v429 : Value).ownBlock) v395 t393) := ⟨h3_⟩
        have n4_ : Aside0 (Kd.R (Kd.int .u64) 32 w89 w.heap.size (fun k_ => some k_ ≠ (.slice Ao67 y383.length co67 : Value).ownBlock ∧ some k_ ≠ (.slice Ao68 y386.length co68 : Value).ownBlock ∧ some k_ ≠ (v391 : Value).ownBlock ∧ some k_ ≠ (v395 : Value).ownBlock ∧ some k_ ≠ (v403 : Value).ownBlock ∧ some k_ ≠ (v405 : Value).ownBlock ∧ some k_ ≠ (v409 : Value).ownBlock ∧ some k_ ≠ (.slice Ao78 y411.length co78 : Value).ownBlock ∧ some k_ ≠ (v416 : Value).ownBlock ∧ some k_ ≠ (.slice Ao82 y418.length co82 : Value).ownBlock ∧ some k_ ≠ (v423 : Value).ownBlock ∧ some k_ ≠ (v426 : Value).ownBlock ∧ some k_ ≠ (v429 : Value).ownBlock) (.slice Ao73 y397.length co73) y397) := ⟨h4_⟩
        have n5_ : Aside0 (Kd.R (Kd.int .u64) 32 w89 w.heap.size (fun k_ => some k_ ≠ (.slice Ao67 y383.length co67 : Value).ownBlock ∧ some k_ ≠ (.slice Ao68 y386.length co68 : Value).ownBlock ∧ some k_ ≠ (v391 : Value).ownBlock ∧ some k_ ≠ (v395 : Value).ownBlock ∧ some k_ ≠ (.slice Ao73 y397.length co73 : Value).ownBlock ∧ some k_ ≠ (v405 : Value).ownBlock ∧ some k_ ≠ (v409 : Value).ownBlock ∧ some k_ ≠ (.slice Ao78 y411.length co78 : Value).ownBlock ∧ some k_ ≠ (v416 : Value).ownBlock ∧ some k_ ≠ (.slice Ao82 y418.length co82 : Value).ownBlock ∧ some k_ ≠ (v423 : Value).ownBlock ∧ some k_ ≠ (v426 : Value).ownBlock ∧ some k_ ≠ (v429 : Value).ownBlock) v403 t400) := ⟨h5_⟩
        have n6_ : Aside0 (Kd.R (Kd.int .u64) 32 w89 w.heap.size (fun k_ => some k_ ≠ (.slice Ao67 y383.length co67 : Value).ownBlock ∧ some k_ ≠ (.slice Ao68 y386.length co68 : Value).ownBlock ∧ some k_ ≠ (v391 : Value).ownBlock ∧ some k_ ≠ (v395 : Value).ownBlock ∧ some k_ ≠ (.slice Ao73 y397.length co73 : Value).ownBlock ∧ some k_ ≠ (v403 : Value).ownBlock ∧ some k_ ≠ (v409 : Value).ownBlock ∧ some k_ ≠ (.slice Ao78 y411.length co78 : Value).ownBlock ∧ some k_ ≠ (v416 : Value).ownBlock ∧ some k_ ≠ (.slice Ao82 y418.length co82 : Value).ownBlock ∧ some k_ ≠ (v423 : Value).ownBlock ∧ some k_ ≠ (v426 : Value).ownBlock ∧ some k_ ≠ (v429 : Value).ownBlock) v405 t401) := ⟨h6_⟩
        have n7_ : Aside0 (Kd.R (Kd.int .u64) 32 w89 w.heap.size (fun k_ => some k_ ≠ (.slice Ao67 y383.length co67 : Value).ownBlock ∧ some k_ ≠ (.slice Ao68 y386.length co68 : Value).ownBlock ∧ some k_ ≠ (v391 : Value).ownBlock ∧ some k_ ≠ (v395 : Value).ownBlock ∧ some k_ ≠ (.slice Ao73 y397.length co73 : Value).ownBlock ∧ some k_ ≠ (v403 : Value).ownBlock ∧ some k_ ≠ (v405 : Value).ownBlock ∧ some k_ ≠ (.slice Ao78 y411.length co78 : Value).ownBlock ∧ some k_ ≠ (v416 : Value).ownBlock ∧ some k_ ≠ (.slice Ao82 y418.length co82 : Value).ownBlock ∧ some k_ ≠ (v423 : Value).ownBlock ∧ some k_ ≠ (v426 : Value).ownBlock ∧ some k_ ≠ (v429 : Value).ownBlock) v409 t407) := ⟨h7_⟩
        have n8_ : Aside0 (Kd.R (Kd.int .u64) 32 w89 w.heap.size (fun k_ => some k_ ≠ (.slice Ao67 y383.length co67 : Value).ownBlock ∧ some k_ ≠ (.slice Ao68 y386.length co68 : Value).ownBlock ∧ some k_ ≠ (v391 : Value).ownBlock ∧ some k_ ≠ (v395 : Value).ownBlock ∧ some k_ ≠ (.slice Ao73 y397.length co73 : Value).ownBlock ∧ some k_ ≠ (v403 : Value).ownBlock ∧ some k_ ≠ (v405 : Value).ownBlock ∧ some k_ ≠ (v409 : Value).ownBlock ∧ some k_ ≠ (v416 : Value).ownBlock ∧ some k_ ≠ (.slice Ao82 y418.length co82 : Value).ownBlock ∧ some k_ ≠ (v423 : Value).ownBlock ∧ some k_ ≠ (v426 : Value).ownBlock ∧ some k_ ≠ (v429 : Value).ownBlock) (.slice Ao78 y411.length co78) y411) := ⟨h8_⟩
        have n9_ : Aside0 (Kd.R (Kd.int .u64) 32 w89 w.heap.size (fun k_ => some k_ ≠ (.slice Ao67 y383.length co67 : Value).ownBlock ∧ some k_ ≠ (.slice Ao68 y386.length co68 : Value).ownBlock ∧ some k_ ≠ (v391 : Value).ownBlock ∧ some k_ ≠ (v395 : Value).ownBlock ∧ some k_ ≠ (.slice Ao73 y397.length co73 : Value).ownBlock ∧ some k_ ≠ (v403 : Value).ownBlock ∧ some k_ ≠ (v405 : Value).ownBlock ∧ some k_ ≠ (v409 : Value).ownBlock ∧ some k_ ≠ (.slice Ao78 y411.length co78 : Value).ownBlock ∧ some k_ ≠ (.slice Ao82 y418.length co82 : Value).ownBlock ∧ some k_ ≠ (v423 : Value).ownBlock ∧ some k_ ≠ (v426 : Value).ownBlock ∧ some k_ ≠ (v429 : Value).ownBlock) v416 t414) := ⟨h9_⟩
        have n10_ : Aside0 (Kd.R (Kd.int .u64) 32 w89 w.heap.size (fun k_ => some k_ ≠ (.slice Ao67 y383.length co67 : Value).ownBlock ∧ some k_ ≠ (.slice Ao68 y386.length co68 : Value).ownBlock ∧ some k_ ≠ (v391 : Value).ownBlock ∧ some k_ ≠ (v395 : Value).ownBlock ∧ some k_ ≠ (.slice Ao73 y397.length co73 : Value).ownBlock ∧ some k_ ≠ (v403 : Value).ownBlock ∧ some k_ ≠ (v405 : Value).ownBlock ∧ some k_ ≠ (v409 : Value).ownBlock ∧ some k_ ≠ (.slice Ao78 y411.length co78 : Value).ownBlock ∧ some k_ ≠ (v416 : Value).ownBlock ∧ some k_ ≠ (v423 : Value).ownBlock ∧ some k_ ≠ (v426 : Value).ownBlock ∧ some k_ ≠ (v429 : Value).ownBlock) (.slice Ao82 y418.length co82) y418) := ⟨h10_⟩
        have n11_ : Aside0 (Kd.R (Kd.int .u64) 32 w89 w.heap.size (fun k_ => some k_ ≠ (.slice Ao67 y383.length co67 : Value).ownBlock ∧ some k_ ≠ (.slice Ao68 y386.length co68 : Value).ownBlock ∧ some k_ ≠ (v391 : Value).ownBlock ∧ some k_ ≠ (v395 : Value).ownBlock ∧ some k_ ≠ (.slice Ao73 y397.length co73 : Value).ownBlock ∧ some k_ ≠ (v403 : Value).ownBlock ∧ some k_ ≠ (v405 : Value).ownBlock ∧ some k_ ≠ (v409 : Value).ownBlock ∧ some k_ ≠ (.slice Ao78 y411.length co78 : Value).ownBlock ∧ some k_ ≠ (v416 : Value).ownBlock ∧ some k_ ≠ (.slice Ao82 y418.length co82 : Value).ownBlock ∧ some k_ ≠ (v426 : Value).ownBlock ∧ some k_ ≠ (v429 : Value).ownBlock) v423 t421) := ⟨h11_⟩
        have n12_ : Aside0 (Kd.R (Kd.int .u64) 32 w89 w.heap.size (fun k_ => some k_ ≠ (.slice Ao67 y383.length co67 : Value).ownBlock ∧ some k_ ≠ (.slice Ao68 y386.length co68 : Value).ownBlock ∧ some k_ ≠ (v391 : Value).ownBlock ∧ some k_ ≠ (v395 : Value).ownBlock ∧ some k_ ≠ (.slice Ao73 y397.length co73 : Value).ownBlock ∧ some k_ ≠ (v403 : Value).ownBlock ∧ some k_ ≠ (v405 : Value).ownBlock ∧ some k_ ≠ (v409 : Value).ownBlock ∧ some k_ ≠ (.slice Ao78 y411.length co78 : Value).ownBlock ∧ some k_ ≠ (v416 : Value).ownBlock ∧ some k_ ≠ (.slice Ao82 y418.length co82 : Value).ownBlock ∧ some k_ ≠ (v423 : Value).ownBlock ∧ some k_ ≠ (v429 : Value).ownBlock) v426 y425) := ⟨h12_⟩
        have n13_ : Aside0 (Kd.R (Kd.int .u64) 32 w89 w.heap.size (fun k_ => some k_ ≠ (.slice Ao67 y383.length co67 : Value).ownBlock ∧ some k_ ≠ (.slice Ao68 y386.length co68 : Value).ownBlock ∧ some k_ ≠ (v391 : Value).ownBlock ∧ some k_ ≠ (v395 : Value).ownBlock ∧ some k_ ≠ (.slice Ao73 y397.length co73 : Value).ownBlock ∧ some k_ ≠ (v403 : Value).ownBlock ∧ some k_ ≠ (v405 : Value).ownBlock ∧ some k_ ≠ (v409 : Value).ownBlock ∧ some k_ ≠ (.slice Ao78 y411.length co78 : Value).ownBlock ∧ some k_ ≠ (v416 : Value).ownBlock ∧ some k_ ≠ (.slice Ao82 y418.length co82 : Value).ownBlock ∧ some k_ ≠ (v423 : Value).ownBlock ∧ some k_ ≠ (v426 : Value).ownBlock) v429 y428) := ⟨h13_⟩
        have n14_ : Aside0 (Below w.heap.size w w89) := ⟨h14_⟩
        clear HO385
        clear HO388
        clear HO392
        clear HO396
        clear HO399
        clear HO404
        clear HO406
        clear HO410
        clear HO413
        clear HO417
        clear HO420
        clear HO424
        clear HR352_0
        clear HR357_0
        clear HB
        clear h0_ h1_ h2_ h3_ h4_ h5_ h6_ h7_ h8_ h9_ h10_ h11_ h12_ h13_ h14_
        have HO385 := n0_
        have HO388 := n1_
        have HO392 := n2_
        have HO396 := n3_
        have HO399 := n4_
        have HO404 := n5_
        have HO406 := n6_
        have HO410 := n7_
        have HO413 := n8_
        have HO417 := n9_
        have HO420 := n10_
        have HO424 := n11_
        have HO427 := n12_
        have HO430 := n13_
        have HB := n14_
        clear n0_ n1_ n2_ n3_ n4_ n5_ n6_ n7_ n8_ n9_ n10_ n11_ n12_ n13_ n14_
        have hHeld := trivial
        obtain ⟨Ao90, co90, eo90⟩ := R_slice HO427.out
        (first | subst eo90 | (injection eo90 with f1_ f2_ f3_; have f4_ := f1_.symm; have f5_ := f3_.symm; clear f1_ f2_ f3_; subst f4_; subst f5_))
        obtain ⟨Ao91, co91, eo91⟩ := R_slice HO430.out
        (first | subst eo91 | (injection eo91 with f1_ f2_ f3_; have f4_ := f1_.symm; have f5_ := f3_.symm; clear f1_ f2_ f3_; subst f4_; subst f5_))
        refine norm_ (a' := ?_) ?_ ?_
        rotate_left
        ·simp only [putAll, Act.put, List.setIfInBounds_toArray, List.set_cons_zero, List.set_cons_succ]
         rfl
        refine oq_ 2 92 8 7 HT_.out fun K hK => ?_
        refine gs_ Tryd.func12 #[.int .i64 3, .slice Ao90 y425.length co90, .slice Ao91 y428.length co91] ?_
        with_reducible refine (poly_Through.calls kj15 3 _ _ y425 _ _ y428 t431 t432 _ ?side1 ?side2 ?side3 ?side4 ?side5 A53.out).mono ?_
        (case side1 => exact fU_ HG.out HB.out)
        (case side2 => exact cU_ ((R_reads' HO427.out).2.2))
        (case side3 => exact (R_reads' HO427.out).2.1)
        (case side4 => exact cU_ ((R_reads' HO430.out).2.2))
        (case side5 => exact (R_reads' HO430.out).2.1)
        rintro e w92 ⟨v433, rfl, ho0, hb⟩
        refine ⟨_, rfl, ?_⟩
        refine nx16_ (R_elder' (rU_ HO385.out) (R_base ho0) hb) (R_elder' (rU_ HO388.out) (R_base ho0) hb) (R_elder' (rU_ HO392.out) (R_base ho0) hb) (R_elder' (rU_ HO396.out) (R_base ho0) hb) (R_elder' (rU_ HO399.out) (R_base ho0) hb) (R_elder' (rU_ HO404.out) (R_base ho0) hb) (R_elder' (rU_ HO406.out) (R_base ho0) hb) (R_elder' (rU_ HO410.out) (R_base ho0) hb) (R_elder' (rU_ HO413.out) (R_base ho0) hb) (R_elder' (rU_ HO417.out) (R_base ho0) hb) (R_elder' (rU_ HO420.out) (R_base ho0) hb) (R_elder' (rU_ HO424.out) (R_base ho0) hb) (R_elder' (rU_ HO427.out) (R_base ho0) hb) (R_elder' (rU_ HO430.out) (R_base ho0) hb) (R_lower (R_new' (R_new' (R_new' (R_new' (R_new' (R_new' (R_new' (R_new' (R_new' (R_new' (R_new' (R_new' (R_new' (R_new' ho0 (R_lt (rU_ HO385.out))) (R_lt (rU_ HO388.out))) (R_lt (rU_ HO392.out))) (R_lt (rU_ HO396.out))) (R_lt (rU_ HO399.out))) (R_lt (rU_ HO404.out))) (R_lt (rU_ HO406.out))) (R_lt (rU_ HO410.out))) (R_lt (rU_ HO413.out))) (R_lt (rU_ HO417.out))) (R_lt (rU_ HO420.out))) (R_lt (rU_ HO424.out))) (R_lt (rU_ HO427.out))) (R_lt (rU_ HO430.out))) (below_size (bU_ HB.out))) (below_step (bU_ HB.out) hb) ?_
        clear HO385 HO388 HO392 HO396 HO399 HO404 HO406 HO410 HO413 HO417 HO420 HO424 HO427 HO430 HB
        intro HO385 HO388 HO392 HO396 HO399 HO404 HO406 HO410 HO413 HO417 HO420 HO424 HO427 HO430 HO434 HB
        (try clear hb)
        (try clear hb2)
        (try clear hk)
        (try clear hi)
        (try clear ho0)
        refine hK.out _ _ trivial (fun hHeld => ?_)
        clear hK K
        refine norm_ (a' := ?_) ?_ ?_
        rotate_left
        ·show Act.put _ (some 92) _ = _
         simp only [Act.put, s1_, s2_, s3_, i64_w, i32_w]
         rfl
        refine pq_ 3 89 8 15 HT_.out ?_
        refine pq_ 4 93 8 31 HT_.out ?_
        refine pq_ 5 94 8 63 HT_.out ?_
        refine pq_ 6 15 8 127 HT_.out ?_
        refine pq_ 7 16 8 255 HT_.out ?_
        refine done_ (done_of HT_.out (by kernel_rfl)) ?_
        go_upto_if 126 with (first | ((with_reducible refine gate_dst (N := 103) rfl ?_); (try (refine gate_guard (by rfl) ?_; dsimp only)); refine R_lit (Kd.int .u64) _ 32 ?hg (N := 103) ?hd (xs := ([1] : List Int)) (inner := [.int .u64 1]) (ok := fun _ => True) (okp := fun _ => True) ?hr ?hp (fun _ hk => hk) trivial (Below.refl _ _) (Nat.le_refl _) (by simp) ?_; (case hd => rfl); (case hg => rfl); (case hr => first | (go_simp; done) | (go_simp; rfl)); (case hp => exact (Reps.one (show Kd.M (Kd.int .u64) _ _ _ 1 [.int .u64 1] from rfl) (Reps.none _ _))); intro v436 w93 ho94 hb hg_ hnew_; clear hg_ hnew_; (first | rw [← Ny435.out] at ho94 | (simp only [Int.reduceToNat] at ho94; rw [← Ny435.out] at ho94)); refine nx17_ (R_elder' (rU_ HO385.out) (R_base ho94) hb) (R_elder' (rU_ HO388.out) (R_base ho94) hb) (R_elder' (rU_ HO392.out) (R_base ho94) hb) (R_elder' (rU_ HO396.out) (R_base ho94) hb) (R_elder' (rU_ HO399.out) (R_base ho94) hb) (R_elder' (rU_ HO404.out) (R_base ho94) hb) (R_elder' (rU_ HO406.out) (R_base ho94) hb) (R_elder' (rU_ HO410.out) (R_base ho94) hb) (R_elder' (rU_ HO413.out) (R_base ho94) hb) (R_elder' (rU_ HO417.out) (R_base ho94) hb) (R_elder' (rU_ HO420.out) (R_base ho94) hb) (R_elder' (rU_ HO424.out) (R_base ho94) hb) (R_elder' (rU_ HO427.out) (R_base ho94) hb) (R_elder' (rU_ HO430.out) (R_base ho94) hb) (R_elder' (rU_ HO434.out) (R_base ho94) hb) (R_lower (R_new' (R_new' (R_new' (R_new' (R_new' (R_new' (R_new' (R_new' (R_new' (R_new' (R_new' (R_new' (R_new' (R_new' (R_new' ho94 (R_lt (rU_ HO385.out))) (R_lt (rU_ HO388.out))) (R_lt (rU_ HO392.out))) (R_lt (rU_ HO396.out))) (R_lt (rU_ HO399.out))) (R_lt (rU_ HO404.out))) (R_lt (rU_ HO406.out))) (R_lt (rU_ HO410.out))) (R_lt (rU_ HO413.out))) (R_lt (rU_ HO417.out))) (R_lt (rU_ HO420.out))) (R_lt (rU_ HO424.out))) (R_lt (rU_ HO427.out))) (R_lt (rU_ HO430.out))) (R_lt (rU_ HO434.out))) (below_size (bU_ HB.out))) (below_step (bU_ HB.out) hb) ?_; clear HO385 HO388 HO392 HO396 HO399 HO404 HO406 HO410 HO413 HO417 HO420 HO424 HO427 HO430 HO434 HB; intro HO385 HO388 HO392 HO396 HO399 HO404 HO406 HO410 HO413 HO417 HO420 HO424 HO427 HO430 HO434 HO437 HB; clear hb ho94; obtain ⟨Ao95, co95, eo95⟩ := R_slice HO396.out; subst eo95; obtain ⟨Ao96, co96, eo96⟩ := R_slice HO437.out; subst eo96) | (go_at_call 21; (with_reducible refine (attestorlaw03_same.calls kj15 _ _ t393 _ _ y435 true _ ?side1 ?side2 ?side3 ?side4 A56.out).mono ?_); (case side1 => exact cU_ ((R_reads' HO396.out).2.2)); (case side2 => exact (R_reads' HO396.out).2.1); (case side3 => exact cU_ ((R_reads' HO437.out).2.2)); (case side4 => exact (R_reads' HO437.out).2.1); rintro e w' ⟨rfl, ⟨nd, rfl⟩⟩))
        (try simp only [Act.put, s1_, s2_, s3_])
        go_cut [] (fun wc => ∃ (kq : Nat), Aside0 (attestorlaw03_PolyKnown.j1 kq  = some r) ∧ Aside0 (kq ≤ kj15) ∧ Aside0 (Below w.heap.size w wc))
        case first =>
         have H := HC62.out
         clear HC62
         obtain ⟨c97, H⟩ : (t432 = 3) ∧ _ := it_ H
         have c97b0 := beq_iff_eq.mpr c97
         have c97b1 := bne_eq_false_iff_eq.mpr c97
         clear c97
         (first | rw [c97b0] | (simp only [i64_w, i32_w]; rw [c97b0]) | rw [c97b1] | skip)
         have H' := ak H
         clear H
         go_wp2
         go_meet
         case rel => exact ⟨_, H', ⟨by have := HJ15.out; first | omega | exact Nat.le_refl _⟩, ⟨bU_ HB.out⟩⟩
        case rest =>
         clear HC62
         (try clear c1); (try clear c2); (try clear p2); (try clear c5); (try clear c6); (try clear c9); (try clear c12); (try clear c14); (try clear c19); (try clear c20); (try clear c51); (try clear c51b0); (try clear c51b1); (try clear c54); (try clear c54b0); (try clear c54b1); (try clear c55); (try clear c55b0); (try clear c55b1); (try clear c57); (try clear c58); (try clear c58b0); (try clear c58b1); (try clear c59); (try clear c59b0); (try clear c59b1); (try clear c60); (try clear c60b0); (try clear c60b1); (try clear c61); (try clear c61b0); (try clear c61b1); (try clear c97); (try clear c97b0); (try clear c97b1)
         obtain ⟨kq, HA, HJ61, HB⟩ := hcut
         cases kq with
         | zero => exact attestorlaw03_PolyKnown.j1n HA.out
         | succ kj61 =>
          have H := HA.out
          clear HA
          rw [attestorlaw03_PolyKnown.j1s] at H
          obtain ⟨c98, H⟩ : (32768 ≤ 35184372088832) ∧ _ := it_ H
          have c98b0 := eq_true c98
          have c98b1 := decide_eq_true c98
          clear c98
          obtain ⟨y439, hy439⟩ : ∃ y_ : List Int, y_ = (List.replicate 32768 0) := ⟨_, rfl⟩
          first | rw [Option.bind_some, ← hy439] at H | rw [← hy439] at H
          have Ny439 := ak hy439
          clear hy439
          obtain ⟨c99, H⟩ : (32767 < (y439.length : Int)) ∧ _ := it_ H
          have c99b0 := decide_eq_true c99
          have c99b1 : decide (32767 < y439.length) = true := decide_eq_true (by omega)
          clear c99
          obtain ⟨y442, hy442⟩ : ∃ y_ : List Int, y_ = (y439.set (32767 : Int).toNat 1) := ⟨_, rfl⟩
          first | rw [Option.bind_some, ← hy442] at H | rw [← hy442] at H
          have Ny442 := ak hy442
          clear hy442
          obtain ⟨y443, hy443⟩ : ∃ y_ : List Int, y_ = (([0, 1] : List Int)) := ⟨_, rfl⟩
          replace H : ((poly_Mul.f kj61 3 y442 y443).bind fun bt446 => ((poly_Mul.f kj61 3 y442 (([5, 0] : List Int))).bind fun bt453 => (if bt446.2 = 3 then (if bt453.2 = 0 then (if (bt453.1.length : Int) = 32768 then (if 32767 < (bt453.1.length : Int) then (if (rd bt453.1 32767) = 5 then ((poly_Split.f kj61 0 ([] : List Int) 65).bind fun t458 => (if (t458.length : Int) = 0 then ((poly_Split.f kj61 0 ([] : List Int) 0).bind fun t461 => (if (t461.length : Int) = 0 then ((poly_Split.f kj61 0 ([] : List Int) 64).bind fun t464 => (if (t464.length : Int) = 64 then (if 65 ≤ 11728124029610 then ((poly_Join.f kj61 0 (List.replicate 65 [])).bind fun t470 => (if (t470.length : Int) = 0 then ((poly_Degree.f kj61 9 (([1] : List Int))).bind fun t476 => (if t476 = (-1) then ((poly_Eval.f kj61 9 (([1] : List Int)) 1).bind fun t480 => (if t480 = 0 then ((attestorlaw03_works.f kj61).bind fun t481 => (some t481)) else (none))) else (none))) else (none))) else (none)) else (none))) else (none))) else (none))) else (none)) else (none)) else (none)) else (none)) else (none)))) = some r := by first | (rw [hy443]; with_reducible exact H) | (have H2_ := (Option.bind_some _ _).symm.trans H; rw [hy443]; with_reducible exact H2_) | (have H2_ := (Option.bind_some _ _).symm.trans H; with_reducible exact H2_) | with_reducible exact H | (rw [hy443]; exact H) | exact H
          have Ny443 := ak hy443
          clear hy443
          revert H
          refine bd2_ fun t446 t447 A101 H => ?_
          try dsimp only at H
          obtain ⟨y450, hy450⟩ : ∃ y_ : List Int, y_ = (([5, 0] : List Int)) := ⟨_, rfl⟩
          replace H : ((poly_Mul.f kj61 3 y442 y450).bind fun bt453 => (if t447 = 3 then (if bt453.2 = 0 then (if (bt453.1.length : Int) = 32768 then (if 32767 < (bt453.1.length : Int) then (if (rd bt453.1 32767) = 5 then ((poly_Split.f kj61 0 ([] : List Int) 65).bind fun t458 => (if (t458.length : Int) = 0 then ((poly_Split.f kj61 0 ([] : List Int) 0).bind fun t461 => (if (t461.length : Int) = 0 then ((poly_Split.f kj61 0 ([] : List Int) 64).bind fun t464 => (if (t464.length : Int) = 64 then (if 65 ≤ 11728124029610 then ((poly_Join.f kj61 0 (List.replicate 65 [])).bind fun t470 => (if (t470.length : Int) = 0 then ((poly_Degree.f kj61 9 (([1] : List Int))).bind fun t476 => (if t476 = (-1) then ((poly_Eval.f kj61 9 (([1] : List Int)) 1).bind fun t480 => (if t480 = 0 then ((attestorlaw03_works.f kj61).bind fun t481 => (some t481)) else (none))) else (none))) else (none))) else (none)) else (none))) else (none))) else (none))) else (none)) else (none)) else (none)) else (none)) else (none))) = some r := by first | (rw [hy450]; with_reducible exact H) | (have H2_ := (Option.bind_some _ _).symm.trans H; rw [hy450]; with_reducible exact H2_) | (have H2_ := (Option.bind_some _ _).symm.trans H; with_reducible exact H2_) | with_reducible exact H | (rw [hy450]; exact H) | exact H
          have Ny450 := ak hy450
          clear hy450
          revert H
          refine bd2_ fun t453 t454 A102 H => ?_
          try dsimp only at H
          obtain ⟨c103, H⟩ : (t447 = 3) ∧ _ := it_ H
          have c103b0 := beq_iff_eq.mpr c103
          have c103b1 := bne_eq_false_iff_eq.mpr c103
          clear c103
          obtain ⟨c104, H⟩ : (t454 = 0) ∧ _ := it_ H
          have c104b0 := beq_iff_eq.mpr c104
          have c104b1 := bne_eq_false_iff_eq.mpr c104
          clear c104
          obtain ⟨c105, H⟩ : ((t453.length : Int) = 32768) ∧ _ := it_ H
          have c105b0 := beq_iff_eq.mpr c105
          have c105b1 := bne_eq_false_iff_eq.mpr c105
          clear c105
          obtain ⟨c106, H⟩ : (32767 < (t453.length : Int)) ∧ _ := it_ H
          have c106b0 := decide_eq_true c106
          have c106b1 : decide (32767 < t453.length) = true := decide_eq_true (by omega)
          clear c106
          obtain ⟨c107, H⟩ : ((rd t453 32767) = 5) ∧ _ := it_ H
          have c107b0 := beq_iff_eq.mpr c107
          have c107b1 := bne_eq_false_iff_eq.mpr c107
          clear c107
          revert H
          refine bd_ fun t458 A108 H => ?_
          obtain ⟨c109, H⟩ : ((t458.length : Int) = 0) ∧ _ := it_ H
          have c109b0 := beq_iff_eq.mpr c109
          have c109b1 := bne_eq_false_iff_eq.mpr c109
          clear c109
          revert H
          refine bd_ fun t461 A110 H => ?_
          obtain ⟨c111, H⟩ : ((t461.length : Int) = 0) ∧ _ := it_ H
          have c111b0 := beq_iff_eq.mpr c111
          have c111b1 := bne_eq_false_iff_eq.mpr c111
          clear c111
          revert H
          refine bd_ fun t464 A112 H => ?_
          obtain ⟨c113, H⟩ : ((t464.length : Int) = 64) ∧ _ := it_ H
          have c113b0 := beq_iff_eq.mpr c113
          have c113b1 := bne_eq_false_iff_eq.mpr c113
          clear c113
          obtain ⟨c114, H⟩ : (65 ≤ 11728124029610) ∧ _ := it_ H
          have c114b0 := eq_true c114
          have c114b1 := decide_eq_true c114
          clear c114
          obtain ⟨y467, hy467⟩ : ∃ y_ : List (List Int), y_ = (List.replicate 65 []) := ⟨_, rfl⟩
          replace H : ((poly_Join.f kj61 0 y467).bind fun t470 => (if (t470.length : Int) = 0 then ((poly_Degree.f kj61 9 (([1] : List Int))).bind fun t476 => (if t476 = (-1) then ((poly_Eval.f kj61 9 (([1] : List Int)) 1).bind fun t480 => (if t480 = 0 then ((attestorlaw03_works.f kj61).bind fun t481 => (some t481)) else (none))) else (none))) else (none))) = some r := by first | (rw [hy467]; with_reducible exact H) | (have H2_ := (Option.bind_some _ _).symm.trans H; rw [hy467]; with_reducible exact H2_) | (have H2_ := (Option.bind_some _ _).symm.trans H; with_reducible exact H2_) | with_reducible exact H | (rw [hy467]; exact H) | exact H
          have Ny467 := ak hy467
          clear hy467
          revert H
          refine bd_ fun t470 A115 H => ?_
          obtain ⟨c116, H⟩ : ((t470.length : Int) = 0) ∧ _ := it_ H
          have c116b0 := beq_iff_eq.mpr c116
          have c116b1 := bne_eq_false_iff_eq.mpr c116
          clear c116
          obtain ⟨y473, hy473⟩ : ∃ y_ : List Int, y_ = (([1] : List Int)) := ⟨_, rfl⟩
          replace H : ((poly_Degree.f kj61 9 y473).bind fun t476 => (if t476 = (-1) then ((poly_Eval.f kj61 9 (([1] : List Int)) 1).bind fun t480 => (if t480 = 0 then ((attestorlaw03_works.f kj61).bind fun t481 => (some t481)) else (none))) else (none))) = some r := by first | (rw [hy473]; with_reducible exact H) | (have H2_ := (Option.bind_some _ _).symm.trans H; rw [hy473]; with_reducible exact H2_) | (have H2_ := (Option.bind_some _ _).symm.trans H; with_reducible exact H2_) | with_reducible exact H | (rw [hy473]; exact H) | exact H
          have Ny473 := ak hy473
          clear hy473
          revert H
          refine bd_ fun t476 A117 H => ?_
          obtain ⟨c118, H⟩ : (t476 = (-1)) ∧ _ := it_ H
          have c118b0 := beq_iff_eq.mpr c118
          have c118b1 := bne_eq_false_iff_eq.mpr c118
          clear c118
          obtain ⟨y477, hy477⟩ : ∃ y_ : List Int, y_ = (([1] : List Int)) := ⟨_, rfl⟩
          replace H : ((poly_Eval.f kj61 9 y477 1).bind fun t480 => (if t480 = 0 then ((attestorlaw03_works.f kj61).bind fun t481 => (some t481)) else (none))) = some r := by first | (rw [hy477]; with_reducible exact H) | (have H2_ := (Option.bind_some _ _).symm.trans H; rw [hy477]; with_reducible exact H2_) | (have H2_ := (Option.bind_some _ _).symm.trans H; with_reducible exact H2_) | with_reducible exact H | (rw [hy477]; exact H) | exact H
          have Ny477 := ak hy477
          clear hy477
          revert H
          refine bd_ fun t480 A119 H => ?_
          obtain ⟨c120, H⟩ : (t480 = 0) ∧ _ := it_ H
          have c120b0 := beq_iff_eq.mpr c120
          have c120b1 := bne_eq_false_iff_eq.mpr c120
          clear c120
          revert H
          refine bd_ fun t481 A121 H => ?_
          obtain rfl := Option.some.inj H
          go_wp2_with (first | ((with_reducible refine gate_dst (N := 127) rfl ?_); (try (refine gate_guard (by rfl) ?_; dsimp only)); refine R_make (Kd.int .u64) _ 32 rfl (N := 127) rfl 22 _ _ rfl 32768 ?hx ?hy Tryd.underlying22 (.int .u64 0) 8 info32 rfl (by decide) (by omega) 0 (ok := fun _ => True) (okp := fun _ => True) rfl (fun _ hk => hk) trivial (by omega) (by omega) (Below.refl _ _) (Nat.le_refl _) ?_; (case hx => first | rfl); (case hy => first | rfl); intro v440 w122 ho123 hb hg_ hnew_; clear hg_ hnew_; (first | rw [← Ny439.out] at ho123 | (simp only [Int.reduceToNat] at ho123; rw [← Ny439.out] at ho123)); refine nx2_ (R_lower ho123 (below_size (bU_ HB.out))) (below_step (bU_ HB.out) hb) ?_; clear HB; intro HO441 HB; clear hb ho123; have p100 : 0 ≤ (32767 : Int) := (by omega); have q100 : (32767 : Int) < ((y439.length : Int) : Int) := od_; have qi100 : (32767 < y439.length) = True := eq_true (by omega); obtain ⟨go100, co100, eo100, gb100, gl100, cl100, HG100⟩ := Kd.R_form HO441.out (by omega); (first | cases eo100 | (injection eo100 with ea_ en_ ec_; (first | subst ea_ | (injection ea_ with ea_; subst ea_)); subst ec_; clear en_)); have GB100 := ak gb100; have GG100 := ak HG100; clear gb100 gl100 HG100; obtain ⟨hx100_0, hf100_0⟩ := Kd.R_celln 0 HO441.out (32767 : Int) p100 q100; (try rw [show ((32767 : Int)).toNat = 32767 from rfl] at hx100_0); (try simp only [Nat.reduceMul, Nat.zero_mul, Nat.zero_add, Nat.reduceAdd] at hx100_0); (try rw [show ((32767 : Int)).toNat = 32767 from rfl] at hf100_0); (try simp only [Nat.reduceMul, Nat.zero_mul, Nat.zero_add, Nat.reduceAdd] at hf100_0); replace p100 := eq_true p100; replace q100 := eq_true q100; obtain ⟨hy124_, hz124_⟩ := Kd.R_celln 0 HO441.out (32767 : Int) (by omega) od_; (try simp only [Int.reduceToNat, Int.toNat_zero, Int.toNat_ofNat, Nat.reduceMul, Nat.zero_mul, Nat.zero_add] at hy124_ hz124_); (try rw [show ((32767 : Int)).toNat = 32767 from rfl] at hy124_); (try rw [show ((32767 : Int)).toNat = 32767 from rfl] at hz124_); have HP124 := Kd.R_putg HO441.out (32767 : Int) 1) | ((with_reducible refine gate_store (t := 32) (p := 129) rfl ?_); refine store_event (t := 32) (p := 129) (v := ?vo_w125) (w1 := (w122.setCell ⟨go100, (32767 : Int).toNat, none⟩ (.int .u64 1))) ?hg ?ho ?hn ?hr ?_; (case ho => rfl); (case hg => rfl); (case hn => rfl); (case hr => first | (go_simp; done) | (go_simp; rfl)); intro w125 hw; have hg : w122.grownBy w125 (some go100) := (by rw [hw]; exact HP124.2); have hp_ : Kd.R (Kd.int .u64) 32 w125 w.heap.size (fun _ => True) (.slice (some ⟨go100, 0, none⟩) y439.length co100) y442 := (by rw [hw, Ny442.out]; exact HP124.1); clear HP124; refine nx2_ (hp_) ((by rw [hw]; exact below_set (HB.out) GB100.out : Below w.heap.size w w125)) ?_; clear HO441 HB; intro HO441 HB; clear hg hw hp_) | ((with_reducible refine gate_dst (N := 132) rfl ?_); (try (refine gate_guard (by rfl) ?_; dsimp only)); refine R_lit (Kd.int .u64) _ 32 ?hg (N := 132) ?hd (xs := ([0, 1] : List Int)) (inner := [.int .u64 0, .int .u64 1]) (ok := fun _ => True) (okp := fun _ => True) ?hr ?hp (fun _ hk => hk) trivial (Below.refl _ _) (Nat.le_refl _) (by simp) ?_; (case hd => rfl); (case hg => rfl); (case hr => first | (go_simp; done) | (go_simp; rfl)); (case hp => exact (Reps.one (show Kd.M (Kd.int .u64) _ _ _ 0 [.int .u64 0] from rfl) (Reps.one (show Kd.M (Kd.int .u64) _ _ _ 1 [.int .u64 1] from rfl) (Reps.none _ _)))); intro v444 w126 ho127 hb hg_ hnew_; clear hg_ hnew_; (first | rw [← Ny443.out] at ho127 | (simp only [Int.reduceToNat] at ho127; rw [← Ny443.out] at ho127)); refine nx3_ (R_elder' (rU_ HO441.out) (R_base ho127) hb) (R_lower (R_new' ho127 (R_lt (rU_ HO441.out))) (below_size (bU_ HB.out))) (below_step (bU_ HB.out) hb) ?_; clear HO441 HB; intro HO441 HO445 HB; clear hb ho127; obtain ⟨Ao128, co128, eo128⟩ := R_slice HO445.out; subst eo128) | ((with_reducible refine gate_callee (f := 20) rfl ?_); refine goesL_ (some 133) rfl rfl Tryd.func20 (by kernel_rfl) rfl #[.int .i64 3, .slice (some ⟨go100, 0, none⟩) y442.length co100, .slice Ao128 y443.length co128] rfl (by (try simp only [List.map_toArray, List.map_cons, List.map_nil]); first | done | (rw [show y442.length = y439.length from (R_reads' HO441.out).1.symm] <;> rfl) | rfl | (simp only [List.length_drop, List.length_take]; rfl)) ?_; (with_reducible refine (poly_Mul.calls kj61 3 _ _ y442 _ _ y443 t446 t447 _ ?side1 ?side2 ?side3 ?side4 ?side5 A101.out).mono ?_); (case side1 => exact fU_ HG.out HB.out); (case side2 => exact cU_ ((R_reads' HO441.out).2.2)); (case side3 => rw [show y442.length = y439.length from (R_reads' HO441.out).1.symm]; exact (R_reads' HO441.out).2.1); (case side4 => exact cU_ ((R_reads' HO445.out).2.2)); (case side5 => exact (R_reads' HO445.out).2.1); rintro e w129 ⟨v448, rfl, ho0, hb⟩; refine ⟨_, rfl, ?_⟩; refine nx4_ (R_elder' (rU_ HO441.out) (R_base ho0) hb) (R_elder' (rU_ HO445.out) (R_base ho0) hb) (R_lower (R_new' (R_new' ho0 (R_lt (rU_ HO441.out))) (R_lt (rU_ HO445.out))) (below_size (bU_ HB.out))) (below_step (bU_ HB.out) hb) ?_; clear HO441 HO445 HB; intro HO441 HO445 HO449 HB; clear hb ho0; have n0_ := ak (R_mono HO441.out (fun _ hk => trivial)); clear HO441; clear HO445 HO449; have HO441 := n0_; clear n0_) | ((with_reducible refine gate_dst (N := 138) rfl ?_); (try (refine gate_guard (by rfl) ?_; dsimp only)); refine R_lit (Kd.int .u64) _ 32 ?hg (N := 138) ?hd (xs := ([5, 0] : List Int)) (inner := [.int .u64 5, .int .u64 0]) (ok := fun _ => True) (okp := fun _ => True) ?hr ?hp (fun _ hk => hk) trivial (Below.refl _ _) (Nat.le_refl _) (by simp) ?_; (case hd => rfl); (case hg => rfl); (case hr => first | (go_simp; done) | (go_simp; rfl)); (case hp => exact (Reps.one (show Kd.M (Kd.int .u64) _ _ _ 5 [.int .u64 5] from rfl) (Reps.one (show Kd.M (Kd.int .u64) _ _ _ 0 [.int .u64 0] from rfl) (Reps.none _ _)))); intro v451 w130 ho131 hb hg_ hnew_; clear hg_ hnew_; (first | rw [← Ny450.out] at ho131 | (simp only [Int.reduceToNat] at ho131; rw [← Ny450.out] at ho131)); refine nx3_ (R_elder' (rU_ HO441.out) (R_base ho131) hb) (R_lower (R_new' ho131 (R_lt (rU_ HO441.out))) (below_size (bU_ HB.out))) (below_step (bU_ HB.out) hb) ?_; clear HO441 HB; intro HO441 HO452 HB; clear hb ho131; obtain ⟨Ao132, co132, eo132⟩ := R_slice HO452.out; subst eo132) | ((with_reducible refine gate_callee (f := 20) rfl ?_); refine goesL_ (some 139) rfl rfl Tryd.func20 (by kernel_rfl) rfl #[.int .i64 3, .slice (some ⟨go100, 0, none⟩) y442.length co100, .slice Ao132 y450.length co132] rfl (by (try simp only [List.map_toArray, List.map_cons, List.map_nil]); first | done | (rw [show y442.length = y439.length from (R_reads' HO441.out).1.symm] <;> rfl) | rfl | (simp only [List.length_drop, List.length_take]; rfl)) ?_; (with_reducible refine (poly_Mul.calls kj61 3 _ _ y442 _ _ y450 t453 t454 _ ?side1 ?side2 ?side3 ?side4 ?side5 A102.out).mono ?_); (case side1 => exact fU_ HG.out HB.out); (case side2 => exact cU_ ((R_reads' HO441.out).2.2)); (case side3 => rw [show y442.length = y439.length from (R_reads' HO441.out).1.symm]; exact (R_reads' HO441.out).2.1); (case side4 => exact cU_ ((R_reads' HO452.out).2.2)); (case side5 => exact (R_reads' HO452.out).2.1); rintro e w133 ⟨v455, rfl, ho0, hb⟩; refine ⟨_, rfl, ?_⟩; refine nx4_ (R_elder' (rU_ HO441.out) (R_base ho0) hb) (R_elder' (rU_ HO452.out) (R_base ho0) hb) (R_lower (R_new' (R_new' ho0 (R_lt (rU_ HO441.out))) (R_lt (rU_ HO452.out))) (below_size (bU_ HB.out))) (below_step (bU_ HB.out) hb) ?_; clear HO441 HO452 HB; intro HO441 HO452 HO456 HB; clear hb ho0; obtain ⟨Ao134, co134, eo134⟩ := R_slice HO456.out; subst eo134; have pfr135 : 0 ≤ (32767 : Int) := (by omega); have qfr135 : (32767 : Int) < ((t453.length : Int) : Int) := od_; obtain ⟨gofr135, cofr135, eofr135, gbfr135, glfr135, clfr135, HGfr135⟩ := Kd.R_form HO456.out (by omega); (first | cases eofr135 | (injection eofr135 with ea_ en_ ec_; (first | subst ea_ | (injection ea_ with ea_; subst ea_)); subst ec_; clear en_)); have GBfr135 := ak gbfr135; have GGfr135 := ak HGfr135; clear gbfr135 glfr135 HGfr135; clear pfr135 qfr135; have p457 : 0 ≤ (32767 : Int) := (by omega); have q457 : 32767 < (t453.length : Int) := od_; obtain ⟨ad457, e457, hx457_0⟩ := Kd.at_int (R_reads' HO456.out).2.2 32767 p457 q457; obtain rfl : (⟨gofr135, 0, none⟩ : Addr) = ad457 := (by injection e457); (first | simp only [add_plain] at hx457_0 | simp only [add_at] at hx457_0 | simp only [Addr.add, Nat.zero_add] at hx457_0 | skip); have qi457 : (32767 < t453.length) = True := eq_true (by omega); (try rw [show ((32767 : Int)).toNat = 32767 from rfl] at hx457_0); replace p457 := eq_true p457; replace q457 := eq_true q457; clear HO441 HO452 HO456) | (go_at_call 40; (with_reducible show Calls _ _ #[_, _, .int .i64 65] _ _); (refine (poly_Split.calls kj61 0 _ _ ([] : List Int) 65 t458 _ ?side1 ?side2 ?side3 A108.out).mono ?_); (case side1 => exact fU_ HG.out HB.out); (case side2 => exact Kd.C_nil _ _); (case side3 => exact Nat.le_refl _); rintro e w136 ⟨v459, rfl, ho0, hb⟩; refine nx2_ (Kd.S_lower ho0 (below_size (bU_ HB.out))) (below_step (bU_ HB.out) hb) ?_; clear HB; intro HO460 HB; clear hb ho0; obtain ⟨Ao137, co137, eo137⟩ := Kd.S_slice HO460.out; subst eo137) | (go_at_call 40; (with_reducible show Calls _ _ #[_, _, .int .i64 0] _ _); (refine (poly_Split.calls kj61 0 _ _ ([] : List Int) 0 t461 _ ?side1 ?side2 ?side3 A110.out).mono ?_); (case side1 => exact fU_ HG.out HB.out); (case side2 => exact Kd.C_nil _ _); (case side3 => exact Nat.le_refl _); rintro e w138 ⟨v462, rfl, ho0, hb⟩; refine nx3_ (Kd.S_elder' (by (with_reducible repeat (first | apply Kd.S_alloc | apply Kd.S_drewN | apply Kd.S_drew)); exact HO460.out) (Kd.S_base ho0) hb) (Kd.S_lower (Kd.S_new' ho0 (Kd.S_lt (by (with_reducible repeat (first | apply Kd.S_alloc | apply Kd.S_drewN | apply Kd.S_drew)); exact HO460.out))) (below_size (bU_ HB.out))) (below_step (bU_ HB.out) hb) ?_; clear HO460 HB; intro HO460 HO463 HB; clear hb ho0; obtain ⟨Ao139, co139, eo139⟩ := Kd.S_slice HO463.out; subst eo139; clear HO460 HO463) | (go_at_call 40; (with_reducible show Calls _ _ #[_, _, .int .i64 64] _ _); (refine (poly_Split.calls kj61 0 _ _ ([] : List Int) 64 t464 _ ?side1 ?side2 ?side3 A112.out).mono ?_); (case side1 => exact fU_ HG.out HB.out); (case side2 => exact Kd.C_nil _ _); (case side3 => exact Nat.le_refl _); rintro e w140 ⟨v465, rfl, ho0, hb⟩; refine nx2_ (Kd.S_lower ho0 (below_size (bU_ HB.out))) (below_step (bU_ HB.out) hb) ?_; clear HB; intro HO466 HB; clear hb ho0; obtain ⟨Ao141, co141, eo141⟩ := Kd.S_slice HO466.out; subst eo141) | ((with_reducible refine gate_dst (N := 175) rfl ?_); (try (refine gate_guard (by rfl) ?_; dsimp only)); refine Kd.S_make (Kd.slice 32 (Kd.int .u64)) _ 22 rfl (N := 175) rfl 45 _ _ rfl 65 ?hx ?hy Tryd.underlying45 (.slice none 0 0) 24 info22 rfl (by decide) (by omega) [] (ok := fun _ => True) (okp := fun _ => True) ⟨_, rfl, Kd.R_nil _ _ _ _ _⟩ (fun _ hk => hk) trivial (by omega) (by omega) (Below.refl _ _) (Nat.le_refl _) ?_; (case hx => first | rfl); (case hy => first | rfl); intro v468 w142 ho143 hb hg_ hnew_; clear hg_ hnew_; (first | rw [← Ny467.out] at ho143 | (simp only [Int.reduceToNat] at ho143; rw [← Ny467.out] at ho143)); refine nx3_ (Kd.S_elder' (by (with_reducible repeat (first | apply Kd.S_alloc | apply Kd.S_drewN | apply Kd.S_drew)); exact HO466.out) (Kd.S_base ho143) hb) (Kd.S_lower (Kd.S_new' ho143 (Kd.S_lt (by (with_reducible repeat (first | apply Kd.S_alloc | apply Kd.S_drewN | apply Kd.S_drew)); exact HO466.out))) (below_size (bU_ HB.out))) (below_step (bU_ HB.out) hb) ?_; clear HO466 HB; intro HO466 HO469 HB; clear hb ho143; refine nx1_ (Kd.S_mono HO469.out (fun _ hk => trivial)) ?_; clear HO469 HO466; intro HO469; obtain ⟨Ao144, co144, eo144⟩ := Kd.S_slice HO469.out; subst eo144) | (go_at_call 42; (with_reducible refine (poly_Join.calls kj61 0 _ _ y467 t470 _ ?side1 ?side2 ?side3 A115.out).mono ?_); (case side1 => exact fU_ HG.out HB.out); (case side2 => exact cU_ ((Kd.S_reads' HO469.out).2.2)); (case side3 => exact (Kd.S_reads' HO469.out).2.1); rintro e w145 ⟨v471, rfl, ho0, hb⟩; refine nx3_ (Kd.S_elder' (by (with_reducible repeat (first | apply Kd.S_alloc | apply Kd.S_drewN | apply Kd.S_drew)); exact HO469.out) (R_base ho0) hb) (R_lower ho0 (below_size (bU_ HB.out))) (below_step (bU_ HB.out) hb) ?_; clear HO469 HB; intro HO469 HO472 HB; clear hb ho0; obtain ⟨Ao146, co146, eo146⟩ := R_slice HO472.out; subst eo146; clear HO469 HO472) | ((with_reducible refine gate_dst (N := 181) rfl ?_); (try (refine gate_guard (by rfl) ?_; dsimp only)); refine R_lit (Kd.int .u64) _ 32 ?hg (N := 181) ?hd (xs := ([1] : List Int)) (inner := [.int .u64 1]) (ok := fun _ => True) (okp := fun _ => True) ?hr ?hp (fun _ hk => hk) trivial (Below.refl _ _) (Nat.le_refl _) (by simp) ?_; (case hd => rfl); (case hg => rfl); (case hr => first | (go_simp; done) | (go_simp; rfl)); (case hp => exact (Reps.one (show Kd.M (Kd.int .u64) _ _ _ 1 [.int .u64 1] from rfl) (Reps.none _ _))); intro v474 w147 ho148 hb hg_ hnew_; clear hg_ hnew_; (first | rw [← Ny473.out] at ho148 | (simp only [Int.reduceToNat] at ho148; rw [← Ny473.out] at ho148)); refine nx2_ (R_lower ho148 (below_size (bU_ HB.out))) (below_step (bU_ HB.out) hb) ?_; clear HB; intro HO475 HB; clear hb ho148; obtain ⟨Ao149, co149, eo149⟩ := R_slice HO475.out; subst eo149) | (go_at_call 18; (with_reducible refine (poly_Degree.calls kj61 9 _ _ y473 t476 _ ?side1 ?side2 ?side3 A117.out).mono ?_); (case side1 => exact fU_ HG.out HB.out); (case side2 => exact cU_ ((R_reads' HO475.out).2.2)); (case side3 => exact (R_reads' HO475.out).2.1); rintro e w150 ⟨rfl, hb⟩; refine nx2_ (R_below (rU_ HO475.out) hb) (below_step (bU_ HB.out) hb) ?_; clear HO475 HB; intro HO475 HB; clear hb) | ((with_reducible refine gate_dst (N := 186) rfl ?_); (try (refine gate_guard (by rfl) ?_; dsimp only)); refine R_lit (Kd.int .u64) _ 32 ?hg (N := 186) ?hd (xs := ([1] : List Int)) (inner := [.int .u64 1]) (ok := fun _ => True) (okp := fun _ => True) ?hr ?hp (fun _ hk => hk) trivial (Below.refl _ _) (Nat.le_refl _) (by simp) ?_; (case hd => rfl); (case hg => rfl); (case hr => first | (go_simp; done) | (go_simp; rfl)); (case hp => exact (Reps.one (show Kd.M (Kd.int .u64) _ _ _ 1 [.int .u64 1] from rfl) (Reps.none _ _))); intro v478 w151 ho152 hb hg_ hnew_; clear hg_ hnew_; (first | rw [← Ny477.out] at ho152 | (simp only [Int.reduceToNat] at ho152; rw [← Ny477.out] at ho152)); refine nx3_ (R_elder' (rU_ HO475.out) (R_base ho152) hb) (R_lower (R_new' ho152 (R_lt (rU_ HO475.out))) (below_size (bU_ HB.out))) (below_step (bU_ HB.out) hb) ?_; clear HO475 HB; intro HO475 HO479 HB; clear hb ho152; refine nx1_ (R_mono HO479.out (fun _ hk => trivial)) ?_; clear HO479 HO475; intro HO479; obtain ⟨Ao153, co153, eo153⟩ := R_slice HO479.out; subst eo153) | (go_at_call 25; (with_reducible refine (poly_Eval.calls kj61 9 _ _ y477 1 t480 _ ?side1 ?side2 ?side3 A119.out).mono ?_); (case side1 => exact fU_ HG.out HB.out); (case side2 => exact cU_ ((R_reads' HO479.out).2.2)); (case side3 => exact (R_reads' HO479.out).2.1); rintro e w154 ⟨rfl, hb⟩; refine nx2_ (R_below (rU_ HO479.out) hb) (below_step (bU_ HB.out) hb) ?_; clear HO479 HB; intro HO479 HB; clear hb) | (go_at_call 17; (with_reducible refine (attestorlaw03_works.calls kj61  t481 _ ?side1 A121.out).mono ?_); (case side1 => exact fU_ HG.out HB.out); rintro e w155 ⟨rfl, hb⟩; refine nx2_ (R_below (rU_ HO479.out) hb) (below_step (bU_ HB.out) hb) ?_; clear HO479 HB; intro HO479 HB; clear hb))
          go_ret
          exact ⟨eW_, bU_ HB.out⟩
       replace c57 := Bool.eq_false_iff.mpr c57
       subst c57
       rw [if_neg (show ¬ (false = true) by decide)] at H
       exact absurd H (by simp)
    replace c14 := Bool.eq_false_iff.mpr c14
    subst c14
    rw [if_neg (show ¬ (false = true) by decide)] at H
    exact absurd H (by simp)
   replace c11 := Bool.eq_false_iff.mpr c11
   subst c11
   rw [if_neg (show ¬ (false = true) by decide)] at H
   exact absurd H (by simp)
  replace c8 := Bool.eq_false_iff.mpr c8
  subst c8
  rw [if_neg (show ¬ (false = true) by decide)] at H
  exact absurd H (by simp)
 replace c5 := Bool.eq_false_iff.mpr c5
 subst c5
 rw [if_neg (show ¬ (false = true) by decide)] at H
 exact absurd H (by simp)

def attestorlaw03_PolyKnown.Pure : Prop := ∃ k, attestorlaw03_PolyKnown.f k  = some true
theorem attestorlaw03_PolyKnown.walk (P : attestorlaw03_PolyKnown.Pure)  (w : World) (hG : Fld w)  :
  Calls Tryd.prog 9 #[] w fun e w' => e = .returned (.bool true) ∧ Below w.heap.size w w' := by
 obtain ⟨k, h⟩ := P  
 refine (attestorlaw03_PolyKnown.calls k  true w hG h).mono ?_
 rintro e w' ⟨rfl, hd⟩
 exact ⟨rfl, hd⟩

end Go.Proofs.YtmnahhacobfafaaDoor.Q

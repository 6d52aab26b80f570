import Derived.Test.YtedapdagagkajaaDoorQ0
import Derived.Test.YtedapdagagkajaaDoorQ2
import Derived.Test.YtedapdagagkajaaDoorQ3
namespace Go.Proofs.YtedapdagagkajaaDoor.Q
open Go.RowKit Go.Proofs.YtedapdagagkajaaDoorW.PrintWords Go.Proofs.YtedapdagagkajaaDoorW.PrintLast Go.Proofs.YtedapdagagkajaaDoorW.PrintMore
open Kd (R_below R_mono R_lower R_new' R_elder' R_base R_lt R_slice R_reads' R_tight R_make C_below fresh' R_drew)
attribute [local go_sem] max2_int min2_int max_two min_two max_three min_three max_four min_four   -- for this text's walks alone
set_option linter.unusedVariables false
set_option linter.unusedSimpArgs false

def poly_times.l0 : Nat → Int → Int → List Int → List Int → Int → Int → Option (List Int)
 | 0, _, _, _, _, _, _ => none
 | k + 1, x0, x2, x7, x18, x19, x20 => if x20 < x19 then (if 0 ≤ x20 then (if x20 < (x18.length : Int) then (if x20 < (x7.length : Int) then ((field_Mul.f x0 (rd x18 x20) x2).bind fun t317 => ((field_Sub.f x0 (rd x7 x20) t317).bind fun t318 => (poly_times.l0 k x0 x2 (x7.set (x20 : Int).toNat t318) x18 x19 (wrap64 (x20 + 1))))) else (none)) else (none)) else (none)) else (some x7)
def poly_times.f (k : Nat) (a0 : Int) (l1 : List Int) (a2 : Int) : Option (List Int) := if 0 ≤ (wrap64 ((l1.length : Int) + 1)) then (if (wrap64 ((l1.length : Int) + 1) : Int).toNat ≤ 35184372088832 then ((some (List.replicate (wrap64 ((l1.length : Int) + 1) : Int).toNat 0 : List Int)).bind fun y306 => (if 1 ≤ (y306.length : Int) then (poly_times.l0 k a0 a2 (cpyAt y306 1 l1) l1 (l1.length : Int) 0) else (none))) else (none)) else (none)
theorem poly_times.mono_l : ∀ k, (∀ y0 y1 y2 y3 y4 y5, LeO (poly_times.l0 k y0 y1 y2 y3 y4 y5) (poly_times.l0 (k + 1) y0 y1 y2 y3 y4 y5))
 | 0 => fun _ _ _ _ _ _ r h => by simp [poly_times.l0] at h
 | k + 1 => by
  have ih0 := poly_times.mono_l k
  ·intro y0 y1 y2 y3 y4 y5
   unfold poly_times.l0
   with_reducible repeat' first | apply ih0 | exact LeO.refl _ | exact LeO.none _ | refine LeO.ite ?_ ?_ | refine LeO.bind ?_ (fun _ => ?_)
theorem poly_times.mono : ∀ a0 a1 a2 k, LeO (poly_times.f k a0 a1 a2) (poly_times.f (k + 1) a0 a1 a2) := by
 intro a0 a1 a2 k
 have ih0 := poly_times.mono_l k
 unfold poly_times.f
 with_reducible repeat' first | apply ih0 | exact LeO.refl _ | exact LeO.none _ | refine LeO.ite ?_ ?_ | refine LeO.bind ?_ (fun _ => ?_)
def poly_times.T6 : Bool × List (List Nat × List Nat) := (true, [([], []), ([], []), ([], []), ([], []), ([], []), ([3, 4], [3, 4]), ([5], [5]), ([], []), ([], []), ([], []), ([7, 8, 9], [7, 8, 9]), ([2, 6, 10, 10], [2, 6, 10]), ([0, 1, 0, 1, 2, 3, 4, 5, 6, 7, 8, 9, 10, 11], [0, 1]), ([12, 11, 11, 0, 1, 2, 3, 4, 5, 6, 7, 8, 9, 10, 11], [11, 12])])
def poly_times.B6 : List Nat := [0, 0, 0, 0, 0, 24, 56, 0, 0, 0, 896, 2044, 4095, 8191]
theorem poly_times.tab6 : rtab .any (opsOf Tryd.f91 6) = poly_times.T6 := by kernel_rfl
theorem poly_times.bits6 : waitsOk poly_times.T6.2 poly_times.B6 = true := by kernel_rfl
set_option maxHeartbeats 8000000 in
set_option maxRecDepth 100000 in
theorem poly_times.calls (k : Nat) (a0 : Int) (A1 : Option Addr) (c1 : Nat) (l1 : List Int) (a2 : Int) (r : List Int) (w : World) (hG : Fld w) (hr1 : Kd.C (Kd.int .u64) w A1 l1.length l1) (hc1 : l1.length ≤ c1) (h : poly_times.f k a0 l1 a2 = some r) :
  Calls Tryd.prog 91 #[.int .i64 a0, .slice A1 l1.length c1, .int .u64 a2] w fun e w' => ∃ v0_ : Value, e = .returned (v0_) ∧ Kd.R (Kd.int .u64) 22 w' w.heap.size (fun _ => True) v0_ r ∧ Below w.heap.size w w' := by
 have HG := ak hG
 clear hG
 have HR1 := ak hr1
 have HC1 := ak hc1
 clear hr1 hc1
 have HB := ak (Below.refl w.heap.size w)
 have H := h
 clear h
 unfold poly_times.f at H
 obtain ⟨ji4, hji4⟩ : ∃ j_ : Int, (wrap64 ((l1.length : Int) + 1)) = j_ := ⟨_, rfl⟩
 first | rw [hji4] at H | simp only [hji4] at H
 have hji4w : (IntKind.i64.wrap ((l1.length : Int) + 1)) = ji4 := (i64_w _).trans hji4
 obtain ⟨c5, H⟩ : (0 ≤ (ji4)) ∧ _ := it_ H
 have c5b0 := eq_true c5
 have c5b1 := decide_eq_true c5
 clear c5
 obtain ⟨c6, H⟩ : ((ji4 : Int).toNat ≤ 35184372088832) ∧ _ := it_ H
 have c6b0 := eq_true c6
 have c6b1 := decide_eq_true c6
 clear c6
 obtain ⟨y306, hy306⟩ : ∃ y_ : List Int, y_ = (List.replicate (ji4 : Int).toNat 0) := ⟨_, rfl⟩
 first | rw [Option.bind_some, ← hy306] at H | rw [← hy306] at H
 have Ny306 := ak hy306
 clear hy306
 obtain ⟨c7, H⟩ : (1 ≤ (y306.length : Int)) ∧ _ := it_ H
 have c7b0 := eq_true c7
 have c7b1 := decide_eq_true c7
 clear c7
 obtain ⟨y309, hy309⟩ : ∃ y_ : List Int, y_ = (y306.drop 1) := ⟨_, rfl⟩
 replace H : (poly_times.l0 k a0 a2 (cpyAt y306 1 l1) l1 (l1.length : Int) 0) = some r := by first | (rw [hy309]; with_reducible exact H) | (have H2_ := (Option.bind_some _ _).symm.trans H; rw [hy309]; with_reducible exact H2_) | (have H2_ := (Option.bind_some _ _).symm.trans H; with_reducible exact H2_) | with_reducible exact H | (rw [hy309]; exact H) | exact H
 have Ny309 := ak hy309
 clear hy309
 obtain ⟨y313, hy313⟩ : ∃ y_ : List Int, y_ = (cpyAt y306 1 l1) := ⟨_, rfl⟩
 first | rw [Option.bind_some, ← hy313] at H | rw [← hy313] at H
 have Ny313 := ak hy313
 clear hy313
 have H' := ak H
 clear H
 go_enter Tryd.func91, Tryd.ntmps91
 go_wp2_with (first | ((with_reducible refine gate_dst (N := 13) rfl ?_); refine R_make (Kd.int .u64) _ 22 rfl (N := 13) rfl 33 _ _ rfl ji4 ?hx ?hy Tryd.underlying33 (.int .u64 0) 8 info22 rfl (by decide) (by omega) 0 (ok := fun _ => True) (okp := fun _ => True) rfl (fun _ hk => hk) trivial od_ (Nat.le_trans (Nat.mul_le_mul_right _ (od_ : ji4.toNat ≤ 35184372088832)) (by omega)) (Below.refl _ _) (Nat.le_refl _) ?_; (case hx => first | rfl | (simp only [hji4]; rfl)); (case hy => first | rfl | (simp only [hji4]; rfl)); intro v307 w8 ho9 hb hg_ hnew_; clear hg_ hnew_; (first | rw [← Ny306.out] at ho9 | (simp only [Int.reduceToNat] at ho9; rw [← Ny306.out] at ho9)); refine nx2_ (R_lower ho9 (below_size (bU_ HB.out))) (below_step (bU_ HB.out) hb) ?_; clear HB; intro HO308 HB; clear hb ho9; obtain ⟨Ao11, co11, eo11⟩ := R_slice HO308.out; subst eo11; have q10 : (1 : Int) ≤ ((y306.length : Int) : Int) := od_; obtain ⟨i010, hi010, _, hsz10, _⟩ := info_parts info22; have hroom10 : y306.length ≤ co11 := (R_reads' HO308.out).2.1; have hC10 : Kd.C (Kd.int .u64) _ Ao11 y306.length y306 := (R_reads' HO308.out).2.2; have hcut10 := cut_from (P := Tryd.prog) 33 22 .i64 Tryd.underlying33 hi010 1 hsz10 Ao11 y306.length co11 1 (by omega) q10; have hr10 := Kd.C_drop (m := (1 : Int).toNat) (c := co11) hC10 (by omega) hroom10; obtain ⟨A10, hA10⟩ : ∃ A1, A1 = (if co11 = (1 : Int).toNat then Ao11 else (Ao11 : Option Addr).map (·.add ((1 : Int).toNat * 1))) := ⟨_, rfl⟩; obtain ⟨c10, hc10⟩ : ∃ c1, c1 = co11 - (1 : Int).toNat := ⟨_, rfl⟩; have hy10 : y309.length = y306.length - (1 : Int).toNat := (by rw [Ny309.out, List.length_drop] <;> omega); rw [show (y306).drop (1 : Int).toNat = y309 from Ny309.out.symm] at hr10; replace hr10 : Kd.C (Kd.int .u64) _ A10 y309.length y309 := (by rw [hA10]; exact hr10); rw [← hy10, ← hA10, ← hc10] at hcut10; have HR312 := ak hr10; have HC312 := ak (show y309.length ≤ c10 from by rw [hy10, hc10]; exact Nat.sub_le_sub_right hroom10 _); clear hr10 hC10 hroom10 hi010 hsz10 hc10; have KY10 := ak hy10; have KA10 := ak hA10; clear hy10 hA10; have KL10 := ak (show 1 ≤ y306.length from by omega); replace q10 := eq_true q10) | ((with_reducible refine gate_builtin (b := .copy) (xs := #[.tmp 15, .tmp 16]) rfl ?_); skip; refine copy_cut_ .u64 (w0 := w) w.heap.size rfl (.tmp 15) (.tmp 16) 33 33 22 rfl Tryd.underlying33 (show (Tryd.prog.info? 22).map (·.size) = some 1 by kernel_rfl) Ao11 y306.length co11 y306 1 _ _ _ l1 _ _ _ (fun _ => True) rfl rfl KA10.out KY10.out ?aO ?aR (fun _ _ h => h) ?aF ?aB ?aS ?_; (case aR => exact cU_ (C_below HR1.out HB.out)); (case aB => exact (bU_ HB.out)); (case aF => exact (fun _ _ => trivial)); (case aO => exact (rU_ HO308.out)); (case aS => exact (below_size (bU_ HB.out))); intro w12 ho hb hg hat; rw [← Ny313.out] at ho; refine nx2_ (hb) (ho) ?_; clear HB HO308; intro HB HO314; clear ho hb hg hat))
 go_loopg [20] k (fun kq v20 w' => ∃ (x7_1 : List Int) (x20_1 : Int), v20 = .int .i64 x20_1 ∧ Aside0 (poly_times.l0 kq a0 a2 x7_1 l1 (l1.length : Int) x20_1 = some r) ∧ Aside0 (kq ≤ k) ∧ Aside0 (Kd.R (Kd.int .u64) 22 w' w.heap.size (fun _ => True) (.slice Ao11 y306.length co11) x7_1) ∧ Aside0 (Below w.heap.size w w'))
 case atStart => exact ⟨(y313), (0), gb_, H', ⟨Nat.le_refl _⟩, ⟨rU_ HO314.out⟩, ⟨bU_ HB.out⟩⟩
 case round =>
  clear H'
  (try clear c1); (try clear q1); (try clear p2); (try clear c5); (try clear c5b0); (try clear c5b1); (try clear c6); (try clear c6b0); (try clear c6b1); (try clear p6); (try clear c7); (try clear c7b0); (try clear c7b1); (try clear c9); (try clear c10); (try clear q10)
  obtain ⟨x7_1, x20_1, rfl, HA, HK1, HO_7, HB⟩ := hrel
  have hl7_1 := (R_reads' HO_7.out).1
  rw [hl7_1] at HO_7
  (try simp only [hl7_1])
  cases gk with
  | zero => exact absurd HA.out (by simp [poly_times.l0])
  | succ k1 =>
   have H := HA.out
   clear HA
   simp only [poly_times.l0] at H
   by_cases c13 : x20_1 < (l1.length : Int)
   ·rw [if_pos c13] at H
    have c13b0 := decide_eq_true c13
    clear c13
    obtain ⟨c14, H⟩ : (0 ≤ x20_1) ∧ _ := it_ H
    have c14b0 := decide_eq_true c14
    clear c14
    obtain ⟨c15, H⟩ : (x20_1 < (l1.length : Int)) ∧ _ := it_ H
    have c15b0 := decide_eq_true c15
    clear c15
    obtain ⟨c16, H⟩ : (x20_1 < (x7_1.length : Int)) ∧ _ := it_ H
    have c16b0 := decide_eq_true c16
    clear c16
    revert H
    refine bd_ fun t317 A17 H => ?_
    revert H
    refine bd_ fun t318 A18 H => ?_
    obtain ⟨y319, hy319⟩ : ∃ y_ : List Int, y_ = (x7_1.set (x20_1 : Int).toNat t318) := ⟨_, rfl⟩
    first | rw [Option.bind_some, ← hy319] at H | rw [← hy319] at H
    have Ny319 := ak hy319
    clear hy319
    have H' := ak H
    clear H
    have p315 : 0 ≤ (x20_1 : Int) := od_
    have q315 : x20_1 < (l1.length : Int) := od_
    obtain ⟨ad315, e315, hx315_0⟩ := Kd.at_int HR1.out x20_1 p315 q315
    cases e315
    replace hx315_0 := (HB.out.cell (World.block_lt_of_cell? w _ hx315_0)).trans hx315_0
    replace p315 := eq_true p315
    replace q315 := eq_true q315
    try go_wp2
    refine nx2_ (R_drew HO_7.out) (below_drew1 HB.out) ?_
    clear HO_7 HB
    intro HO_7 HB
    have pfr21 : 0 ≤ (x20_1 : Int) := od_
    have qfr21 : (x20_1 : Int) < ((x7_1.length : Int) : Int) := od_
    obtain ⟨gofr21, cofr21, eofr21, gbfr21, glfr21, clfr21, HGfr21⟩ := Kd.R_form HO_7.out (by omega)
    (first | cases eofr21 | (injection eofr21 with ea_ en_ ec_; (first | subst ea_ | (injection ea_ with ea_; subst ea_)); subst ec_; clear en_))
    have GBfr21 := ak gbfr21
    have GGfr21 := ak HGfr21
    clear gbfr21 glfr21 HGfr21
    clear pfr21 qfr21
    have p316 : 0 ≤ (x20_1 : Int) := od_
    have q316 : x20_1 < (x7_1.length : Int) := od_
    obtain ⟨ad316, e316, hx316_0⟩ := Kd.at_int (R_reads' HO_7.out).2.2 x20_1 p316 q316
    obtain rfl : (⟨gofr21, 0, none⟩ : Addr) = ad316 := (by injection e316)
    (first | simp only [add_plain] at hx316_0 | simp only [add_at] at hx316_0 | simp only [Addr.add, Nat.zero_add] at hx316_0 | skip)
    replace p316 := eq_true p316
    replace q316 := eq_true q316
    refine start_ (n := 14) (S := fun w' => w'.cell? ⟨gofr21, (x20_1).toNat, none⟩ = some (.int .u64 (rd x7_1 x20_1))) (ds := [13]) (bv 14 0) (by kernel_rfl) rfl rfl (hx316_0) (fun hHeld => ?_); refine with_tabW poly_times.tab6 poly_times.bits6 (fun HT_ HW_ => ?_)
    generalize wr.drew = w20 at HO_7 HB hx316_0 hHeld ⊢
    refine pq_ 0 25 14 1 HT_.out ?_
    refine pq_ 1 26 14 3 HT_.out ?_
    refine pq_ 2 27 14 7 HT_.out ?_
    refine pq_ 3 28 14 15 HT_.out ?_
    refine pq_ 4 29 14 31 HT_.out ?_
    refine pq_ 5 30 14 63 HT_.out ?_
    refine pq_ 7 32 14 191 HT_.out ?_
    refine pq_ 8 33 14 447 HT_.out ?_
    refine pq_ 9 34 14 959 HT_.out ?_
    refine take_ (i := 6) (N := some 31) (v := ?_) (a' := ?_) (bv 14 1023) rfl rfl (take_ofW HT_.out HW_.out (by kernel_rfl)) (fun _ _ _ h => h) (Or.inl ⟨by rfl, ?_⟩) hHeld ?_ ?_
    rotate_left
    ·intro w' s0
     go_simp
     with_reducible rfl
    rotate_left
    ·simp only [Act.put, s1_, s2_, s3_, i64_w, i32_w]
     rfl
    refine oq_ 10 35 14 2047 HT_.out fun K hK => ?_
    refine gs_ Tryd.func55 #[.int .i64 a0, .int .u64 (rd l1 x20_1), .int .u64 a2] ?_
    with_reducible refine (field_Mul.calls a0 (rd l1 x20_1) a2 t317 _ ?side1 A17.out).mono ?_
    (case side1 => exact fU_ HG.out HB.out)
    rintro e w22 ⟨rfl, hb⟩
    have HS0_ := (hb.cell (World.block_lt_of_cell? _ _ (hHeld))).trans (hHeld)
    refine ⟨_, rfl, ?_⟩
    refine nx2_ (R_below (rU_ HO_7.out) hb) (below_step (bU_ HB.out) hb) ?_
    clear HO_7 HB
    intro HO_7 HB
    (try clear hb)
    (try clear hb2)
    (try clear hk)
    (try clear hi)
    refine hK.out _ _ (HS0_) (fun hHeld => ?_)
    clear hK K
    refine norm_ (a' := ?_) ?_ ?_
    rotate_left
    ·show Act.put _ (some 35) _ = _
     simp only [Act.put, s1_, s2_, s3_, i64_w, i32_w]
     rfl
    refine oq_ 11 36 14 4095 HT_.out fun K hK => ?_
    refine gs_ Tryd.func73 #[.int .i64 a0, .int .u64 (rd x7_1 x20_1), .int .u64 t317] ?_
    with_reducible refine (field_Sub.calls a0 (rd x7_1 x20_1) t317 t318 _ ?side1 A18.out).mono ?_
    (case side1 => exact fU_ HG.out HB.out)
    rintro e w23 ⟨rfl, hb⟩
    have HS0_ := (hb.cell (World.block_lt_of_cell? _ _ (hHeld))).trans (hHeld)
    refine ⟨_, rfl, ?_⟩
    refine nx2_ (R_below (rU_ HO_7.out) hb) (below_step (bU_ HB.out) hb) ?_
    clear HO_7 HB
    intro HO_7 HB
    (try clear hb)
    (try clear hb2)
    (try clear hk)
    (try clear hi)
    have p19 : 0 ≤ (x20_1 : Int) := od_
    have q19 : (x20_1 : Int) < ((x7_1.length : Int) : Int) := od_
    obtain ⟨hx19_0, hf19_0⟩ := Kd.R_celln 0 HO_7.out (x20_1 : Int) p19 q19
    replace p19 := eq_true p19
    replace q19 := eq_true q19
    have HP24 := Kd.R_putn HO_7.out (x20_1 : Int) t318
    rw [← Ny319.out] at HP24
    have HQ24 := ak HP24
    clear HP24
    refine hK.out _ _ (HS0_) (fun hHeld => ?_)
    clear hK K
    refine norm_ (a' := ?_) ?_ ?_
    rotate_left
    ·show Act.put _ (some 36) _ = _
     simp only [Act.put, s1_, s2_, s3_, i64_w, i32_w]
     rfl
    refine pq_ 12 37 14 8191 HT_.out ?_
    refine last_ (i := 13) (N := none) #[true, true, true, true, true, true, true, true, true, true, true, true, true, true] rfl rfl (one_of HT_.out (by kernel_rfl)) (by decide) (fun K hK => ?_)
    refine skip_ (w1 := ?_) (by rfl) rfl ?_ ?_
    rotate_left
    ·go_simp
     rfl
    refine hK.out _ _ ?_
    clear hK K
    refine done_ (done_of HT_.out (by kernel_rfl)) ?_
    try go_wp2
    (try simp only [← hl7_1])
    go_roundg k1
    case measure => have := HK1.out; omega
    case rel => exact ⟨(y319), (wrap64 (x20_1 + 1)), gb_, H', ⟨by have := HK1.out; omega⟩, ⟨by (try simp only [hl7_1]); (with_reducible repeat (first | apply Kd.R_alloc | apply Kd.R_drewN | apply R_drew)); exact HQ24.out⟩, ⟨sU_⟩⟩
   rw [if_neg c13] at H
   have c13b0 := decide_eq_false c13
   clear c13
   obtain rfl := Option.some.inj H
   go_wp2
   go_ret
   exact ⟨_, by first | rfl | (simp [errW_none, errW_some] <;> rfl) | (simp only [← hji4]; first | rfl | (simp [errW_none, errW_some] <;> rfl)) | (simp [*, errW_none, errW_some] <;> rfl), rU_ HO_7.out, bU_ HB.out⟩

section
open Go.Shelf
attribute [local go_sem] Oper.semAt_some

def at64 (l : List Int) (j : Nat) : Int := l.getD j 0
def pairOf (xs ys : List Int) (j : Nat) : Int × Int := (at64 xs j, at64 ys j)
def uptoP (xs ys : List Int) (k : Nat) : List (Int × Int) := (List.range k).map (pairOf xs ys)
abbrev encsP (p : Int × Int) : Array Value := #[.int .u64 p.1, .int .u64 p.2]

def Holds64 (P : Nat → Prop) (W : World) (A : Option Addr) (l : List Int) : Prop := ∀ j, j < l.length → ∃ ad, A = some ad ∧ P ad.block ∧ W.cell? (ad.add j) = some (.int .u64 (at64 l j))
theorem Holds64.keeps {P : Nat → Prop} {W W' : World} {A : Option Addr} {l : List Int} (h : Holds64 P W A l) (hb : KeepsP P W W') : Holds64 P W' A l := fun j hj => by
 obtain ⟨ad, e, hlt, hc⟩ := h j hj
 exact ⟨ad, e, hlt, (hb.cell (q := ad.add j) (by rw [add_block]; exact hlt)).trans hc⟩
theorem Holds64.imp {P P' : Nat → Prop} {W : World} {A : Option Addr} {l : List Int} (h : Holds64 P W A l) (hp : ∀ b, P b → P' b) : Holds64 P' W A l := fun j hj => by
 obtain ⟨ad, e, hlt, hc⟩ := h j hj
 exact ⟨ad, e, hp _ hlt, hc⟩
theorem Holds64.of_C {W : World} {A : Option Addr} {l : List Int} (h : Kd.C (Kd.int .u64) W A l.length l) : Holds64 (· < W.heap.size) W A l := fun j hj => by
 obtain ⟨ad, e, hc⟩ := Kd.at_int h (j : Int) (by omega) (by omega)
 have hc' : W.cell? (ad.add j) = some (.int .u64 (at64 l j)) := by simpa [rd, at64] using hc
 refine ⟨ad, e, ?_, hc'⟩
 have := World.block_lt_of_cell? _ _ hc'
 rwa [add_block] at this

theorem uptoP_get (xs ys : List Int) (n k : Nat) (h : k < ((uptoP xs ys n).map encsP).length) : ((uptoP xs ys n).map encsP)[k] = #[.int .u64 (at64 xs k), .int .u64 (at64 ys k)] := by
 simp [uptoP, encsP, pairOf]

set_option maxRecDepth 100000 in
set_option maxHeartbeats 2000000 in
theorem pts_run (F : Fence) (n : Nat) (h64 : F.fn 106) (hro : F.round = none) (hn : 1 ≤ n) (Bx By : Nat) (p : Nat → Prop) (A1 A2 : Option Addr) (c1 c2 : Nat) (xs ys : List Int) (HXY : Hid (xs.length = ys.length)) (hm : xs.length ≤ 9223372036854775807) (hBx : p Bx) (hBy : p By)
  (w : World) (hn0 : ∀ b, p b → b < w.heap.size) (hX : w.cell? ⟨Bx, 0, none⟩ = some (.slice A1 xs.length c1)) (hYc : w.cell? ⟨By, 0, none⟩ = some (.slice A2 ys.length c2)) (hx : Holds64 p w A1 xs) (hy : Holds64 p w A2 ys) :
  SeqRun F n Tryd.prog 106 #[.pointer (some ⟨Bx, 0, none⟩), .pointer (some ⟨By, 0, none⟩)] ((uptoP xs ys xs.length).map encsP) (KeepsP p) w := by
 intro l J W hW _ hY h0
 have hW' : KeepsP p w W := KeepsP.of_below hW hn0
 have hX1 := (hW'.cell (q := ⟨Bx, 0, none⟩) hBx).trans hX
 have hY1 := (hW'.cell (q := ⟨By, 0, none⟩) hBy).trans hYc
 have hx1 := hx.keeps hW'
 have hy1 := hy.keeps hW'
 have hlen : ((uptoP xs ys xs.length).map encsP).length = xs.length := by simp [uptoP]
 have hJ : Aside0 (J xs.length = J ((uptoP xs ys xs.length).map encsP).length) := ⟨by rw [hlen]⟩
 have HLEN := ak hlen
 clear hX hYc hx hy hW hW' hlen
 refine callsIn_of_wp Tryd.func106 rfl h64 ?_ hro
 rw [← hJ.out]
 simp only [Tryd.ntmps106, List.size_toArray, List.length_cons, List.length_nil, Nat.reduceAdd, Nat.reduceSub, Array.replicate_succ, Array.replicate_zero, List.push_toArray, List.append_toArray, List.nil_append, List.cons_append]
 gi_wp2
 gi_loopw [8] (fun i wr => ∃ k : Nat, k ≤ xs.length ∧ i = .int .i64 k ∧ J k wr ∧ KeepsP p W wr)
  (fun i _ => xs.length - (intOf i).toNat)
 case atStart => exact ⟨0, Nat.zero_le _, rfl, h0, KeepsP.refl _ _⟩
 case round =>
  obtain ⟨k, hk, rfl, hJs, hnx⟩ := hrel
  have hYr := (hnx.cell (q := ⟨By, 0, none⟩) hBy).trans hY1
  by_cases hlt : k < xs.length
  ·obtain ⟨ad1, rfl, hb1, hc1⟩ := (hx1.keeps hnx) k hlt
   obtain ⟨ad2, rfl, hb2, hc2⟩ := (hy1.keeps hnx) k (by have := HXY.out; omega)
   have hlt2 : k < ys.length := by have := HXY.out; omega
   have hlt3 : k < ((uptoP xs ys xs.length).map encsP).length := by rw [HLEN.out]; exact hlt
   obtain ⟨fn, tmps, assign, body, hy', hR⟩ := hY k hlt3 wr hJs
   rw [uptoP_get] at hy'
   clear hX1 hY1 hlt3
   gi_wp2
   refine hR.mono ?_
   rintro e W3 ⟨rfl, hJ3, hk3⟩
   gi_wp2
   go_roundw
   case rel => exact ⟨k + 1, by omega, by simp, hJ3, hnx.trans hk3⟩
   case measure => simp [intOf]; omega
  obtain rfl : k = xs.length := by omega
  gi_wp2
  go_end0
  exact ⟨⟨_, rfl⟩, hJs⟩
end

section
theorem points_calls (A1 A2 : Option Addr) (n1 n2 c1 c2 : Nat) (w : World) :
  Calls Tryd.prog 87 #[.slice A1 n1 c1, .slice A2 n2 c2] w fun e w' => e = .returned (.func (.func 106) #[] #[.pointer (some ⟨w.heap.size, 0, none⟩), .pointer (some ⟨w.heap.size + 1, 0, none⟩)]) ∧ w' = (w.alloc (.cells #[.slice A1 n1 c1] 33)).alloc (.cells #[.slice A2 n2 c2] 33) := by
 go_enter Tryd.func87, Tryd.ntmps87
 go_wp2
 go_ret
 exact ⟨rfl, rfl⟩

theorem plainElem_bool_inv_ {H : Type} {P : Program} {e : TypeId} (he : P.underlying e = some .bool) {v : Value} {z : DataW H × List MemPlace} (h : plainElem P e v = some z) : ∃ a, v = .bool a ∧ z = (.lit (.bool a), []) := by
 unfold plainElem at h
 rw [he] at h
 cases v <;> simp at h
 exact ⟨_, rfl, h.symm⟩

def SeenMap (w : World) (b n : Nat) (S : List Int) : Prop :=
 ∃ D : DataW Unit, w.ownsMap Tryd.prog 22 (plainElem Tryd.prog 4) b n D ∧ Maps.IsMap D ∧ ∀ x, D.atKey (.int .u64 x) (.lit (.bool false)) = .lit (.bool (decide (x ∈ S)))

theorem SeenMap.made (w : World) : SeenMap (w.alloc (.map #[] 0)) w.heap.size 0 [] :=
 ⟨.map [], World.ownsMap_made w _ _ _, ⟨[], rfl⟩, fun x => by simp [DataW.atKey]⟩

theorem SeenMap.below {w w' : World} {b n : Nat} {S : List Int} (h : SeenMap w b n S) (hb : Below w.heap.size w w') : SeenMap w' b n S := by
 obtain ⟨D, ⟨es, clock, h1, h2, h3, h4⟩, hD, hat⟩ := h
 have hlt : b < w.heap.size := (Array.getElem?_eq_some_iff.1 h1).1
 exact ⟨D, ⟨es, clock, (hb.block b hlt).trans h1, h2, h3, h4⟩, hD, hat⟩
theorem SeenMap.lt {w : World} {b n : Nat} {S : List Int} (h : SeenMap w b n S) : b < w.heap.size := by
 obtain ⟨D, ⟨es, clock, h1, h2, h3, h4⟩, hD, hat⟩ := h
 exact (Array.getElem?_eq_some_iff.1 h1).1

theorem zeroBool (w : World) : (zeroValue 4).run Tryd.prog w = .ok (.bool false) w := by kernel_rfl

section
variable {ops : Array Oper} {rest : List Oper} {o : Oper} {a : Act} {Q : Exit → Act → World → Prop}
theorem wpList_seen {w : World} (hg : o.guard = none) (m x : Operand) (hop : o.op = Op.lookup 88 m x false) (b n : Nat) (S : List Int) (z : Int)
  (hm : a.eval m = .map (some b)) (hS : SeenMap w b n S) (hx : a.eval x = .int .u64 z) (hz : 0 ≤ z ∧ z < 18446744073709551616)
  (hK : wpList Tryd.prog ops Q rest (a.put o.dst (.bool (decide (z ∈ S)))) w) : wpList Tryd.prog ops Q (o :: rest) a w := by
 refine wpList_plain hg fun K' hK' => ?_
 obtain ⟨D, hown, hD, hat⟩ := hS
 have hkey := Maps.keyOf_int_mk (P := Tryd.prog) Tryd.underlying22 (a := z) (show (Lit.int .u64 z).wf = true by simp only [Lit.wf, IntKind.min, IntKind.max, IntKind.bits, IntKind.signed]; first | (simp; omega) | decide)
 obtain ⟨v, ps, hrun, hv⟩ := hown.lookup (Maps.int_keyed Tryd.underlying22) Tryd.underlying88 (zeroBool w) (plainElem_bool Tryd.underlying4 false) hkey
 obtain ⟨c, rfl, hc⟩ := plainElem_bool_inv_ Tryd.underlying4 hv
 have hc' : c = decide (z ∈ S) := by
  have h1 := congrArg Prod.fst hc
  simp only at h1
  rw [hat z] at h1
  simpa using h1.symm
 subst hc'
 unfold Oper.wp
 simp [execOp, hop, hm, hx, hrun, Result.andThen]
 exact hK' _ _ hK

theorem wpList_see {w : World} (hg : o.guard = none) (m x v : Operand) (hop : o.op = Op.mapUpdate 88 m x v) (b n : Nat) (S : List Int) (z : Int)
  (hm : a.eval m = .map (some b)) (hS : SeenMap w b n S) (hn : n < maxLen) (hx : a.eval x = .int .u64 z) (hz : 0 ≤ z ∧ z < 18446744073709551616) (hv : a.eval v = .bool true)
  (hK : ∀ w', SeenMap w' b (n + 1) (z :: S) → w.grownBy w' (some b) → wpList Tryd.prog ops Q rest (a.put o.dst undef) w') : wpList Tryd.prog ops Q (o :: rest) a w := by
 obtain ⟨D, hown, hD, hat⟩ := hS
 have hkey := Maps.keyOf_int_mk (P := Tryd.prog) Tryd.underlying22 (a := z) (show (Lit.int .u64 z).wf = true by simp only [Lit.wf, IntKind.min, IntKind.max, IntKind.bits, IntKind.signed]; first | (simp; omega) | decide)
 refine wpList_mapUpdate_own w hg m x v _ hop 22 4 (Maps.int_keyed Tryd.underlying22) Tryd.underlying88 (plainElem Tryd.prog 4) b n D hm hown hn (.int .u64 z) (.bool true) (.int .u64 z) hx hv hkey (.lit (.bool true)) [] (plainElem_bool Tryd.underlying4 true) ?_
 intro w1 hown1 hgr
 refine hK w1 ⟨_, hown1, hD.put _ _, fun y => ?_⟩ hgr
 by_cases e : y = z
 ·subst e
  rw [Maps.atKey_put_same hD (show WideAt.IsKeyLit (.int .u64 y) from trivial)]
  simp
 rw [Maps.atKey_put_other (by intro h; injection h with _ h; exact e h), hat y]
 simp [e]
end
end

def poly_Through.l0 (a0 : Int) : List Int → List Int → Option Bool
 | [], _ => some false
 | x :: r, S => (field_Reduce.f a0 x).bind fun t => if 0 ≤ t ∧ t < 18446744073709551616 then (if t ∈ S then some true else poly_Through.l0 a0 r (t :: S)) else none
def poly_Through.l1 (k : Nat) (a0 : Int) : List (Int × Int) → List Int → List Int → Option (List Int)
 | [], p, _ => some p
 | z :: r, p, v => (poly_Eval.f k a0 p z.1).bind fun e1 => (field_Sub.f a0 z.2 e1).bind fun s => (poly_Eval.f k a0 v z.1).bind fun e2 => (field_Div.f k a0 s e2).bind fun c =>
   (poly_Scale.f k a0 v c).bind fun sc => (poly_Add.f k a0 p sc).bind fun p' => (poly_times.f k a0 v z.1).bind fun v' => poly_Through.l1 k a0 r p' v'
def poly_Through.f (k : Nat) (a0 : Int) (l1 : List Int) (l2 : List Int) : Option (List Int × Int) :=
 (field_Valid.f a0).bind fun t => if t = true ∧ l1.length = l2.length then (if l1.length ≤ 1024 then ((poly_Through.l0 a0 l1 []).bind fun d => if d = true then some ([], 6) else ((poly_Through.l1 k a0 (uptoP l1 l2 l1.length) [] [1]).bind fun p => some (p, 0))) else some ([], 3)) else some ([], 1)

theorem size_two_ (w : World) (a0 : Int) (nd : Nat) : ((w.alloc (.cells #[.int .i64 a0] 3)).drewN nd).heap.size = w.heap.size + 1 := by
 show (w.alloc _).heap.size = _
 simp
theorem cell_two_ (w : World) (a0 : Int) (nd : Nat) : (((w.alloc (.cells #[.int .i64 a0] 3)).drewN nd).alloc (.map #[] 0)).cell? ⟨w.heap.size, 0, none⟩ = some (.int .i64 a0) := by
 rw [World.cell?_alloc_lt _ _ _ (by rw [size_two_]; exact Nat.lt_succ_self _)]
 show (w.alloc _).cell? _ = _
 simp
theorem drop_at64 (l : List Int) (j : Nat) (h : j < l.length) : l.drop j = at64 l j :: l.drop (j + 1) := by
 rw [List.drop_eq_getElem_cons h]; simp [at64, h]
theorem grown_cell_ {w w' : World} {b : Nat} {p : Addr} {v : Value} (hg : w.grownBy w' (some b)) (hc : w.cell? p = some v) (hne : p.block ≠ b) : w'.cell? p = some v :=
 cell_grown hg hc (fun e => hne (Option.some.inj e))


def wThru (wr : World) (A1 A2 : Option Addr) (n1 n2 c1 c2 : Nat) : World :=
 ((((wr.alloc (.cells #[.slice none 0 0] 33)).alloc (.cells #[.int .u64 1] 22)).alloc (.cells #[.slice (some ⟨wr.heap.size + 1, 0, none⟩) 1 1] 33)).alloc (.cells #[.slice A1 n1 c1] 33)).alloc (.cells #[.slice A2 n2 c2] 33)
theorem wThru_size (wr : World) (A1 A2 : Option Addr) (n1 n2 c1 c2 : Nat) : (wThru wr A1 A2 n1 n2 c1 c2).heap.size = wr.heap.size + 5 := by simp [wThru]
theorem wThru_below (wr : World) (A1 A2 : Option Addr) (n1 n2 c1 c2 : Nat) : Below wr.heap.size wr (wThru wr A1 A2 n1 n2 c1 c2) := by
 unfold wThru; repeat (first | exact Below.refl _ _ | apply below_alloc)
theorem alloc_new_ (W : World) (o : Obj) (b : Nat) (h : W.heap.size = b) : (W.alloc o).heap[b]? = some o := by subst h; exact World.alloc_heap_new W o
theorem alloc_old_ (W : World) (o o' : Obj) (b : Nat) (h : W.heap[b]? = some o') : (W.alloc o).heap[b]? = some o' := (Below.heap_alloc W o b (Array.getElem?_eq_some_iff.1 h).1).trans h
theorem wThru_p (wr : World) (A1 A2 : Option Addr) (n1 n2 c1 c2 : Nat) : (wThru wr A1 A2 n1 n2 c1 c2).heap[wr.heap.size]? = some (.cells #[.slice none 0 0] 33 (0, 0)) := by
 unfold wThru; exact alloc_old_ _ _ _ _ (alloc_old_ _ _ _ _ (alloc_old_ _ _ _ _ (alloc_old_ _ _ _ _ (alloc_new_ _ _ _ rfl))))
theorem wThru_v (wr : World) (A1 A2 : Option Addr) (n1 n2 c1 c2 : Nat) : (wThru wr A1 A2 n1 n2 c1 c2).heap[wr.heap.size + 2]? = some (.cells #[.slice (some ⟨wr.heap.size + 1, 0, none⟩) 1 1] 33 (0, 0)) := by
 unfold wThru; exact alloc_old_ _ _ _ _ (alloc_old_ _ _ _ _ (alloc_new_ _ _ _ (by simp)))
theorem wThru_x (wr : World) (A1 A2 : Option Addr) (n1 n2 c1 c2 : Nat) : (wThru wr A1 A2 n1 n2 c1 c2).heap[wr.heap.size + 3]? = some (.cells #[.slice A1 n1 c1] 33 (0, 0)) := by
 unfold wThru; exact alloc_old_ _ _ _ _ (alloc_new_ _ _ _ (by simp))
theorem wThru_y (wr : World) (A1 A2 : Option Addr) (n1 n2 c1 c2 : Nat) : (wThru wr A1 A2 n1 n2 c1 c2).heap[wr.heap.size + 4]? = some (.cells #[.slice A2 n2 c2] 33 (0, 0)) := by
 unfold wThru; exact alloc_new_ _ _ _ (by simp)

structure ThruB (a0 : Int) (w : World) (s : Nat) (W : World) (p v : List Int) (vp vv : Value) : Prop where
 cp : W.heap[s]? = some (.cells #[vp] 33 (0, 0))
 cv : W.heap[s + 1 + 1]? = some (.cells #[vv] 33 (0, 0))
 rp : Kd.R (Kd.int .u64) 22 W w.heap.size (fun _ => True) vp p
 rv : Kd.R (Kd.int .u64) 22 W w.heap.size (fun _ => True) vv v
 bel : Below w.heap.size w W
 cf : W.cell? ⟨w.heap.size, 0, none⟩ = some (.int .i64 a0)
 sz : s + 5 ≤ W.heap.size
def ThruX (k : Nat) (a0 : Int) (l1 l2 r1 : List Int) (w : World) (s i : Nat) (W : World) : Prop := ∃ p v vp vv, poly_Through.l1 k a0 ((uptoP l1 l2 l1.length).drop i) p v = some r1 ∧ ThruB a0 w s W p v vp vv

theorem rowOf_grown {α : Type} {d : Kd α} {e : Nat} {W W' : World} {base : Nat} {v : Value} {xs : List α} {row : Option Nat} (h : d.R e W base (fun _ => True) v xs) (hg : W.grownBy W' row) (hr : ∀ r, row = some r → ∃ o : Obj, W.heap[r]? = some o ∧ o.isCells = false) (hE : d.E = []) : d.R e W' base (fun _ => True) v xs := by
 refine R_mono (Kd.R_grown (R_tight hE h) hg ?_) (fun _ _ => trivial)
 intro k hk e2
 obtain ⟨o, ho, hc⟩ := hr k e2.symm
 obtain ⟨cells, hcl⟩ := own_typed h.2.choose_spec.1 k hk.symm
 rw [ho] at hcl
 cases hcl
 simp [Obj.isCells] at hc

theorem thruX_own (k : Nat) (a0 : Int) (l1 l2 r1 : List Int) (w : World) (s B : Nat) (hB : w.heap.size ≤ B) : OwnFrom B (ThruX k a0 l1 l2 r1 w s) := by
 rintro i W W' row ⟨p, v, vp, vv, on, h⟩ hg hr
 have hne : ∀ {b : Nat} {c : Array Value} {t : TypeId} {f : Nat × Nat}, W.heap[b]? = some (.cells c t f) → some b ≠ row := by
  intro b c t f hb e
  obtain ⟨_, o, ho, hc⟩ := hr b e.symm
  rw [hb] at ho
  cases ho
  simp [Obj.isCells] at hc
 exact ⟨p, v, vp, vv, on, blk_grown h.cp hg (hne h.cp), blk_grown h.cv hg (hne h.cv), rowOf_grown h.rp hg (fun r e => (hr r e).2) rfl, rowOf_grown h.rv hg (fun r e => (hr r e).2) rfl,
  h.bel.grown hg h.bel.size (fun b e => Nat.le_trans hB (hr b e).1), cell_kept h.cf hg (fun r e => (hr r e).2), Nat.le_trans h.sz hg.size⟩

section
variable {a0 : Int} {w W W' : World} {s : Nat} {p v : List Int} {vp vv : Value}
theorem ThruB.below (h : ThruB a0 w s W p v vp vv) (hb : Below W.heap.size W W') : ThruB a0 w s W' p v vp vv :=
 ⟨(hb.block _ (lt_of_block h.cp)).trans h.cp, (hb.block _ (lt_of_block h.cv)).trans h.cv, R_below h.rp hb, R_below h.rv hb, below_step h.bel hb, (hb.cell (World.block_lt_of_cell? _ _ h.cf)).trans h.cf, Nat.le_trans h.sz hb.size⟩
theorem u64_apart : ∀ q, q ∈ 22 :: (Kd.int .u64).E → q ≠ 33 := by
 intro q hq
 have e : (Kd.int .u64).E = [] := rfl
 rw [e] at hq
 simp at hq
 subst hq
 decide
theorem ThruB.putP (h : ThruB a0 w s W p v vp vv) (hs : w.heap.size < s) {p' : List Int} {vp' : Value} (hr : Kd.R (Kd.int .u64) 22 W w.heap.size (fun _ => True) vp' p') : ThruB a0 w s (W.setCell ⟨s, 0, none⟩ vp') p' v vp' vv :=
 ⟨one_setCell h.cp, (heap_setCell_other _ _ _ _ (by show s + 1 + 1 ≠ s; omega)).trans h.cv, Kd.R_set hr h.cp u64_apart _ _, Kd.R_set h.rv h.cp u64_apart _ _,
  h.bel.setCell (p := ⟨s, 0, none⟩) (by show w.heap.size ≤ s; omega) _, (World.cell?_setCell_other _ _ _ _ (by intro e; injection e with e; omega)).trans h.cf, by simpa using h.sz⟩
theorem ThruB.putV (h : ThruB a0 w s W p v vp vv) (hs : w.heap.size < s) {v' : List Int} {vv' : Value} (hr : Kd.R (Kd.int .u64) 22 W w.heap.size (fun _ => True) vv' v') : ThruB a0 w s (W.setCell ⟨s + 1 + 1, 0, none⟩ vv') p v' vp vv' :=
 ⟨(heap_setCell_other _ _ _ _ (by show s ≠ s + 1 + 1; omega)).trans h.cp, one_setCell h.cv, Kd.R_set h.rp h.cv u64_apart _ _, Kd.R_set hr h.cv u64_apart _ _,
  h.bel.setCell (p := ⟨s + 1 + 1, 0, none⟩) (by show w.heap.size ≤ s + 1 + 1; omega) _, (World.cell?_setCell_other _ _ _ _ (by intro e; injection e with e; omega)).trans h.cf, by simpa using h.sz⟩
theorem KeepsP.setCell {p : Nat → Prop} {A B : World} (h : KeepsP p A B) {b : Nat} (u : Value) (hp : ¬ p b) : KeepsP p A (B.setCell ⟨b, 0, none⟩ u) :=
 ⟨by simpa using h.size, fun c hc => (heap_setCell_other _ _ _ _ (by show c ≠ b; intro e; exact hp (e ▸ hc))).trans (h.same c hc)⟩
theorem keepsFrom_setCell {B b : Nat} {A C : World} (h : KeepsFrom B A C) {cs : Array Value} {t : TypeId} {f : Nat × Nat} (hc : C.heap[b]? = some (.cells cs t f)) (u : Value) : KeepsFrom B A (C.setCell ⟨b, 0, none⟩ u) :=
 ⟨by simpa using h.size, fun k o hk ho hn => by
  have h1 := h.same k o hk ho hn
  refine (heap_setCell_other _ _ _ _ ?_).trans h1
  rintro rfl
  rw [hc] at h1
  cases h1
  simp [Obj.isCells] at hn⟩
end

theorem uptoP_drop (xs ys : List Int) (i n : Nat) (h : i < n) : (uptoP xs ys n).drop i = pairOf xs ys i :: (uptoP xs ys n).drop (i + 1) := by
 rw [List.drop_eq_getElem_cons (by simpa [uptoP] using h)]
 simp [uptoP]
theorem keepsP_step {s : Nat} {a0 : Int} {w A W W' : World} {p v : List Int} {vp vv : Value} (h : KeepsP (fun b => b < w.heap.size ∨ b = s + 3 ∨ b = s + 4) A W) (ht : ThruB a0 w s W p v vp vv) (hb : Below W.heap.size W W') : KeepsP (fun b => b < w.heap.size ∨ b = s + 3 ∨ b = s + 4) A W' :=
 h.trans (KeepsP.of_below hb (fun b hq => by have := ht.sz; have := ht.bel.size; rcases hq with h | h | h <;> omega))
theorem keepsFrom_step {B : Nat} {A W W' : World} (h : KeepsFrom B A W) (hb : Below W.heap.size W W') : KeepsFrom B A W' :=
 ⟨Nat.le_trans h.size hb.size, fun k o hk ho hn => have h1 := h.same k o hk ho hn; (hb.block k (lt_of_block h1)).trans h1⟩

theorem thruX_start (k : Nat) (a0 : Int) (l1 l2 r1 : List Int) (w wr : World) (A1 A2 : Option Addr) (n1 n2 c1 c2 : Nat) (h : poly_Through.l1 k a0 (uptoP l1 l2 l1.length) [] [1] = some r1) (hb : Below w.heap.size w wr)
  (hc : wr.cell? ⟨w.heap.size, 0, none⟩ = some (.int .i64 a0)) : ThruX k a0 l1 l2 r1 w wr.heap.size 0 (wThru wr A1 A2 n1 n2 c1 c2) := by
 refine ⟨[], [1], .slice none 0 0, .slice (some ⟨wr.heap.size + 1, 0, none⟩) 1 1, by simpa using h, wThru_p .., wThru_v .., Kd.R_nil _ _ _ _ _, ?_, ?_, ?_, by rw [wThru_size]; exact Nat.le_refl _⟩
 ·unfold wThru
  refine Kd.R_alloc (Kd.R_alloc (Kd.R_alloc ?_ _) _) _
  have := own_lit_of (enc := Value.int .u64) (wr.alloc (.cells #[.slice none 0 0] 33)) w.heap.size 22 [1] (by have := hb.size; simp; omega) (by simp)
  refine Kd.R_of_own ?_ (fun _ _ => trivial)
  have e : (encs (Value.int .u64) [1]).toArray = #[.int .u64 1] := rfl
  rw [e] at this
  simpa using this
 ·exact hb.trans ((wThru_below wr A1 A2 n1 n2 c1 c2).mono hb.size)
 exact ((wThru_below wr A1 A2 n1 n2 c1 c2).cell (World.block_lt_of_cell? _ _ hc)).trans hc

theorem through_seq (n : Nat) (hn : 1 ≤ n) (w wr : World) (A1 A2 : Option Addr) (c1 c2 : Nat) (l1 l2 : List Int) (HL : Hid (l1.length = l2.length)) (hs : l1.length ≤ 1024) (hb : Below w.heap.size w wr) (h1 : Kd.C (Kd.int .u64) w A1 l1.length l1) (h2 : Kd.C (Kd.int .u64) w A2 l2.length l2) :
  SeqRun Fence.wide n Tryd.prog 106 #[.pointer (some ⟨wr.heap.size + 1 + 1 + 1, 0, none⟩), .pointer (some ⟨wr.heap.size + 1 + 1 + 1 + 1, 0, none⟩)] ((uptoP l1 l2 l1.length).map encsP) (KeepsP fun b => b < w.heap.size ∨ b = wr.heap.size + 3 ∨ b = wr.heap.size + 4) (wThru wr A1 A2 l1.length l2.length c1 c2) := by
 have hsz := wThru_size wr A1 A2 l1.length l2.length c1 c2
 have hk : KeepsP (· < w.heap.size) w (wThru wr A1 A2 l1.length l2.length c1 c2) := KeepsP.of_below (hb.trans ((wThru_below wr A1 A2 l1.length l2.length c1 c2).mono hb.size)) (fun _ h => h)
 have := hb.size
 exact pts_run Fence.wide n trivial rfl hn _ _ _ A1 A2 c1 c2 l1 l2 HL (by omega) (Or.inr (Or.inl rfl)) (Or.inr (Or.inr rfl)) _ (fun b hb' => by rw [hsz]; rcases hb' with h | h | h <;> omega)
  (cell_of_one (wThru_x ..)) (cell_of_one (wThru_y ..)) (((Holds64.of_C h1).keeps hk).imp fun b h => Or.inl h) (((Holds64.of_C h2).keeps hk).imp fun b h => Or.inl h)

set_option maxRecDepth 100000 in
set_option maxHeartbeats 4000000 in
theorem through_dup (k : Nat) (a0 : Int) (A1 : Option Addr) (c1 : Nat) (l1 : List Int) (A2 : Option Addr) (c2 : Nat) (l2 : List Int) (r1 : List Int) (r2 : Int) (w : World) (HG : Aside0 (Fld w)) (HR1 : Aside0 (Kd.C (Kd.int .u64) w A1 l1.length l1))
  (HT : Aside0 (field_Valid.f a0 = some true)) (finR : Aside0 (∀ W, Kd.R (Kd.int .u64) 22 W w.heap.size (fun _ => True) (.slice none 0 0) [])) (hc1 : l1.length ≤ c1) (hs : l1.length ≤ 1024) (HL : Hid (l1.length = l2.length))
  (e1 : (((l1.length : Nat) : Int) != ((l2.length : Nat) : Int)) = false) (e2 : decide ((1024 : Int) < (l1.length : Int)) = false) (HD : Aside0 (poly_Through.l0 a0 l1 [] = some true)) (h : [] = r1 ∧ 6 = r2) :
  Calls Tryd.prog 63 #[.int .i64 a0, .slice A1 l1.length c1, .slice A2 l2.length c2] w fun e w' => ∃ v0_ : Value, e = .returned (.tuple #[v0_, .int .i64 r2]) ∧ Kd.R (Kd.int .u64) 22 w' w.heap.size (fun _ => True) v0_ r1 ∧ Below w.heap.size w w' := by
 obtain ⟨rfl, rfl⟩ := h
 have hmm := @run_makeMap Tryd.prog
 go_enter Tryd.func63, Tryd.ntmps63
 go_wp2_with (go_at_call 49; (with_reducible refine (field_Valid.calls a0 true _ HT.out).mono ?_); rintro e w' ⟨rfl, ⟨nd, rfl⟩⟩)
 have hb0 : Below w.heap.size w (((w.alloc (.cells #[.int .i64 a0] 3)).drewN nd).alloc (.map #[] 0)) := by repeat (first | exact Below.refl _ _ | apply below_alloc | apply pw_below_drewN)
 have hc0 : (((w.alloc (.cells #[.int .i64 a0] 3)).drewN nd).alloc (.map #[] 0)).cell? ⟨w.heap.size, 0, none⟩ = some (.int .i64 a0) := cell_two_ w a0 nd
 have hS0 : SeenMap (((w.alloc (.cells #[.int .i64 a0] 3)).drewN nd).alloc (.map #[] 0)) (w.heap.size + 1) 0 [] := by
  have := SeenMap.made ((w.alloc (.cells #[.int .i64 a0] 3)).drewN nd)
  rwa [show ((w.alloc (.cells #[.int .i64 a0] 3)).drewN nd).heap.size = w.heap.size + 1 from size_two_ w a0 nd] at this
 have HS0 := ak hS0
 have HC0 := ak hc0
 have HB0 := ak hb0
 clear hS0 hc0 hb0 hmm
 go_loopw [34] (fun i wr => ∃ (j : Nat) (S : List Int), i = .int .i64 j ∧ Aside0 (j ≤ l1.length) ∧ Aside0 (poly_Through.l0 a0 (l1.drop j) S = some true) ∧ Aside0 (SeenMap wr (w.heap.size + 1) j S) ∧ Aside0 (Below w.heap.size w wr) ∧ Aside0 (wr.cell? ⟨w.heap.size, 0, none⟩ = some (.int .i64 a0))) (fun i _ => l1.length - (intOf i).toNat)
 case atStart => exact ⟨0, [], rfl, ⟨Nat.zero_le _⟩, ⟨HD.out⟩, HS0, HB0, HC0⟩
 case round =>
  obtain ⟨j, S, rfl, hj, hl0, hSM, hB, hcf⟩ := hrel
  by_cases hlt : j < l1.length
  ·have h0 := hl0.out
   rw [drop_at64 l1 j hlt] at h0
   simp only [poly_Through.l0] at h0
   obtain ⟨t, ht, h0⟩ := Option.bind_eq_some_iff.1 h0
   have hG2 := ak (Fld.below HG.out hB.out)
   have hcell := hcf.out
   obtain ⟨ad1, rfl, hb1, hx⟩ := (Holds64.of_C HR1.out).keeps (KeepsP.of_below hB.out (fun _ h => h)) j hlt
   have HT2 := ak ht
   clear ht hb1
   by_cases hz : 0 ≤ t ∧ t < 18446744073709551616
   ·rw [if_pos hz] at h0
    have HZ := ak hz
    clear hz
    by_cases hin : t ∈ S
    ·have HIN : decide (t ∈ S) = true := decide_eq_true hin
     clear hin h0
     go_wp2_with (first | (go_at_call 65; (with_reducible refine (field_Reduce.calls a0 (at64 l1 j) t _ ?sG HT2.out).mono ?_); (case sG => exact hG2.out); rintro e w3 ⟨rfl, hb3⟩; have HS3 := ak (hSM.out.below hb3); have HB3 := ak (below_step hB.out hb3); clear hb3) | (at_lookup; refine wpList_seen rfl (.tmp 41) (.tmp 42) rfl (w.heap.size + 1) j S t rfl HS3.out rfl HZ.out ?_; rw [HIN]))
     go_ret2
     exact ⟨_, rfl, finR.out _, HB3.out⟩
    rw [if_neg hin] at h0
    have HIN : decide (t ∈ S) = false := decide_eq_false hin
    have H0 := ak h0
    clear hin h0
    go_wp2_with (first | (go_at_call 65; (with_reducible refine (field_Reduce.calls a0 (at64 l1 j) t _ ?sG HT2.out).mono ?_); (case sG => exact hG2.out); rintro e w3 ⟨rfl, hb3⟩; have HS3 := ak (hSM.out.below hb3); have HB3 := ak (below_step hB.out hb3); have HC3 := ak ((hb3.cell (p := ⟨w.heap.size, 0, none⟩) (Nat.lt_trans (Nat.lt_succ_self _) hSM.out.lt)).trans hcf.out); clear hb3) | (at_lookup; refine wpList_seen rfl (.tmp 41) (.tmp 42) rfl (w.heap.size + 1) j S t rfl HS3.out rfl HZ.out ?_; rw [HIN]) | (at_mapUpdate; refine wpList_see rfl (.tmp 44) (.tmp 45) (.const (.bool true)) rfl (w.heap.size + 1) j S t rfl HS3.out (by unfold maxLen; omega) rfl HZ.out rfl ?_; intro w4 hs4 hg4; have HS4 := ak hs4; have HB4 := ak (HB3.out.grown hg4 HB3.out.size (fun k_ e_ => by cases e_; omega)); have HC4 := ak (grown_cell_ hg4 HC3.out (by show w.heap.size ≠ w.heap.size + 1; omega) ); clear hs4 hg4))
    go_roundw
    case rel => exact ⟨j + 1, t :: S, by go_num, ⟨by omega⟩, H0, HS4, HB4, HC4⟩
    case measure => simp [intOf]; omega
   rw [if_neg hz] at h0
   cases h0
  have h0 := hl0.out
  rw [List.drop_of_length_le (by omega)] at h0
  simp [poly_Through.l0] at h0


set_option maxRecDepth 100000 in
set_option maxHeartbeats 4000000 in
theorem through_fine (k : Nat) (a0 : Int) (A1 : Option Addr) (c1 : Nat) (l1 : List Int) (A2 : Option Addr) (c2 : Nat) (l2 : List Int) (r1 : List Int) (r2 : Int) (w : World) (HG : Aside0 (Fld w)) (HR1 : Aside0 (Kd.C (Kd.int .u64) w A1 l1.length l1)) (HR2 : Aside0 (Kd.C (Kd.int .u64) w A2 l2.length l2))
  (HT : Aside0 (field_Valid.f a0 = some true)) (finR : Aside0 (∀ W, Kd.R (Kd.int .u64) 22 W w.heap.size (fun _ => True) (.slice none 0 0) [])) (hc1 : l1.length ≤ c1) (hs : l1.length ≤ 1024) (HL : Hid (l1.length = l2.length))
  (e1 : (((l1.length : Nat) : Int) != ((l2.length : Nat) : Int)) = false) (e2 : decide ((1024 : Int) < (l1.length : Int)) = false) (HD : Aside0 (poly_Through.l0 a0 l1 [] = some false)) (HP : Aside0 (poly_Through.l1 k a0 (uptoP l1 l2 l1.length) [] [1] = some r1)) (h : 0 = r2) :
  Calls Tryd.prog 63 #[.int .i64 a0, .slice A1 l1.length c1, .slice A2 l2.length c2] w fun e w' => ∃ v0_ : Value, e = .returned (.tuple #[v0_, .int .i64 r2]) ∧ Kd.R (Kd.int .u64) 22 w' w.heap.size (fun _ => True) v0_ r1 ∧ Below w.heap.size w w' := by
 obtain rfl := h
 have hmm := @run_makeMap Tryd.prog
 refine (callsIn_wide (n := 5)).1 (callsIn_of_wp_marks Tryd.func63 rfl trivial ((wpIn_wide (n := 5)).2 ?_) rfl)
 simp only [Tryd.ntmps63, List.size_toArray, List.length_cons, List.length_nil, Nat.reduceAdd, Nat.reduceSub, Array.replicate_succ, Array.replicate_zero, List.push_toArray, List.append_toArray, List.nil_append, List.cons_append]
 go_wp2_with (go_at_call 49; (with_reducible refine (field_Valid.calls a0 true _ HT.out).mono ?_); rintro e w' ⟨rfl, ⟨nd, rfl⟩⟩)
 have hb0 : Below w.heap.size w (((w.alloc (.cells #[.int .i64 a0] 3)).drewN nd).alloc (.map #[] 0)) := by repeat (first | exact Below.refl _ _ | apply below_alloc | apply pw_below_drewN)
 have hc0 : (((w.alloc (.cells #[.int .i64 a0] 3)).drewN nd).alloc (.map #[] 0)).cell? ⟨w.heap.size, 0, none⟩ = some (.int .i64 a0) := cell_two_ w a0 nd
 have hS0 : SeenMap (((w.alloc (.cells #[.int .i64 a0] 3)).drewN nd).alloc (.map #[] 0)) (w.heap.size + 1) 0 [] := by
  have := SeenMap.made ((w.alloc (.cells #[.int .i64 a0] 3)).drewN nd)
  rwa [show ((w.alloc (.cells #[.int .i64 a0] 3)).drewN nd).heap.size = w.heap.size + 1 from size_two_ w a0 nd] at this
 have HS0 := ak hS0
 have HC0 := ak hc0
 have HB0 := ak hb0
 clear hS0 hc0 hb0 hmm
 go_loopw [34] (fun i wr => ∃ (j : Nat) (S : List Int), i = .int .i64 j ∧ Aside0 (j ≤ l1.length) ∧ Aside0 (poly_Through.l0 a0 (l1.drop j) S = some false) ∧ Aside0 (SeenMap wr (w.heap.size + 1) j S) ∧ Aside0 (Below w.heap.size w wr) ∧ Aside0 (wr.cell? ⟨w.heap.size, 0, none⟩ = some (.int .i64 a0))) (fun i _ => l1.length - (intOf i).toNat)
 case atStart => exact ⟨0, [], rfl, ⟨Nat.zero_le _⟩, ⟨HD.out⟩, HS0, HB0, HC0⟩
 case round =>
  obtain ⟨j, S, rfl, hj, hl0, hSM, hB, hcf⟩ := hrel
  by_cases hlt : j < l1.length
  ·have h0 := hl0.out
   rw [drop_at64 l1 j hlt] at h0
   simp only [poly_Through.l0] at h0
   obtain ⟨t, ht, h0⟩ := Option.bind_eq_some_iff.1 h0
   have hG2 := ak (Fld.below HG.out hB.out)
   have hcell := hcf.out
   obtain ⟨ad1, rfl, hb1, hx⟩ := (Holds64.of_C HR1.out).keeps (KeepsP.of_below hB.out (fun _ h => h)) j hlt
   have HT2 := ak ht
   clear ht hb1
   by_cases hz : 0 ≤ t ∧ t < 18446744073709551616
   ·rw [if_pos hz] at h0
    have HZ := ak hz
    clear hz
    by_cases hin : t ∈ S
    ·rw [if_pos hin] at h0
     cases h0
    rw [if_neg hin] at h0
    have HIN : decide (t ∈ S) = false := decide_eq_false hin
    have H0 := ak h0
    clear hin h0
    go_wp2_with (first | (go_at_call 65; (with_reducible refine (field_Reduce.calls a0 (at64 l1 j) t _ ?sG HT2.out).mono ?_); (case sG => exact hG2.out); rintro e w3 ⟨rfl, hb3⟩; have HS3 := ak (hSM.out.below hb3); have HB3 := ak (below_step hB.out hb3); have HC3 := ak ((hb3.cell (p := ⟨w.heap.size, 0, none⟩) (Nat.lt_trans (Nat.lt_succ_self _) hSM.out.lt)).trans hcf.out); clear hb3) | (at_lookup; refine wpList_seen rfl (.tmp 41) (.tmp 42) rfl (w.heap.size + 1) j S t rfl HS3.out rfl HZ.out ?_; rw [HIN]) | (at_mapUpdate; refine wpList_see rfl (.tmp 44) (.tmp 45) (.const (.bool true)) rfl (w.heap.size + 1) j S t rfl HS3.out (by unfold maxLen; omega) rfl HZ.out rfl ?_; intro w4 hs4 hg4; have HS4 := ak hs4; have HB4 := ak (HB3.out.grown hg4 HB3.out.size (fun k_ e_ => by cases e_; omega)); have HC4 := ak (grown_cell_ hg4 HC3.out (by show w.heap.size ≠ w.heap.size + 1; omega) ); clear hs4 hg4))
    go_roundw
    case rel => exact ⟨j + 1, t :: S, by go_num, ⟨by omega⟩, H0, HS4, HB4, HC4⟩
    case measure => simp [intOf]; omega
   rw [if_neg hz] at h0
   cases h0
  have hge : l1.length ≤ j := by omega
  have hcell := hcf.out
  have hwr : w.heap.size + 1 < wr.heap.size := hSM.out.lt
  have hx0_ := ak (thruX_start k a0 l1 l2 r1 w wr A1 A2 l1.length l2.length c1 c2 HP.out hB.out hcell)
  have hsq_ := ak (through_seq 4 (by decide) w wr A1 A2 c1 c2 l1 l2 HL hs hB.out HR1.out HR2.out)
  clear hl0 HD hlt
  go_wp2_with (go_at_call 87; refine (points_calls A1 A2 l1.length l2.length c1 c2 _).mono ?_; rintro e wThru ⟨rfl, rfl⟩)
  refine (wpIn_wide (n := 5)).1 ?_
  refine wpIn_rangeSeq (F := Fence.wide) (n := 5) rfl (by decide) (gf := 106) (lb := #[.pointer (some ⟨wr.heap.size + 1 + 1 + 1, 0, none⟩), .pointer (some ⟨wr.heap.size + 1 + 1 + 1 + 1, 0, none⟩)]) rfl trivial (enters_of Tryd.func106 (by kernel_rfl) rfl) (xs := (uptoP l1 l2 l1.length).map encsP) (K := KeepsP (fun b => b < w.heap.size ∨ b = wr.heap.size + 3 ∨ b = wr.heap.size + 4)) (w0 := wThru wr A1 A2 l1.length l2.length c1 c2) hsq_.out KeepsP.trans ?hKb (Below.refl _ _) ?hps (ThruX k a0 l1 l2 r1 w wr.heap.size) (thruX_own k a0 l1 l2 r1 w wr.heap.size _ ?hB) hx0_.out (fun i => ⟨#[.int .i64 a0, .slice A1 l1.length c1, .slice A2 l2.length c2, .pointer (some ⟨w.heap.size, 0, none⟩), undef, undef, u6, u7, .map (some (w.heap.size + 1)), undef, u10, .pointer (some ⟨wr.heap.size, 0, none⟩), .pointer (some ⟨wr.heap.size + 1 + 1, 0, none⟩), .int .u64 (at64 l1 i), .int .u64 (at64 l2 i), undef, .bool false, .int .i64 a0, .bool true, .bool false, .bool false, .slice A1 l1.length c1, .int .i64 (l1.length : Int), .slice A2 l2.length c2, .int .i64 (l2.length : Int), .bool false, .bool false, .bool false, .slice A1 l1.length c1, .int .i64 (l1.length : Int), .bool false, .map (some (w.heap.size + 1)), .slice A1 l1.length c1, .int .i64 (l1.length : Int), .int .i64 (j : Int), .bool false, u36, u37, u38, u39, u40, u41, u42, u43, u44, u45, u46, .slice (some ⟨wr.heap.size + 1, 0, none⟩) 1 1, .slice A1 l1.length c1, .slice A2 l2.length c2, .func (.func 106) #[] #[.pointer (some ⟨wr.heap.size + 1 + 1 + 1, 0, none⟩), .pointer (some ⟨wr.heap.size + 1 + 1 + 1 + 1, 0, none⟩)], .int .u64 (at64 l1 i), .int .u64 (at64 l2 i), undef, undef, undef, undef, undef, undef, undef, undef, undef, undef, undef, undef, undef, undef, undef, undef, undef, undef, undef, undef, undef, undef, undef, undef, undef], []⟩) ?assign ?body ?done
  case hKb => intro W l o o' hl _ _ _; refine KeepsP.put o' (fun b hb => ?_); have hsz := wThru_size wr A1 A2 l1.length l2.length c1 c2; have hl' : (wThru wr A1 A2 l1.length l2.length c1 c2).heap.size ≤ l := hl; rw [hsz] at hl'; rcases hb with h | h | h <;> omega
  case hps => intro x hx; obtain ⟨z, hz, rfl⟩ := List.mem_map.1 hx; rfl
  case hB => have hsz := wThru_size wr A1 A2 l1.length l2.length c1 c2; show w.heap.size ≤ (wThru wr A1 A2 l1.length l2.length c1 c2).heap.size; omega
  case assign =>
   intro l i hi W K' hK'
   rw [uptoP_get]
   simp only [List.zip_toArray, List.zip_cons_cons, List.zip_nil_right, List.foldl_toArray, List.foldl_cons, List.foldl_nil, List.setIfInBounds_toArray, List.set_cons_zero, List.set_cons_succ]
   refine wpIn_seq (regIn_list (by simp [noDefer]) (fun ⟨_, _, h⟩ => h) ?_)
   go_wp2
   show Code.wpIn _ _ _ _ _ _ _
   refine regIn_list (by simp [noDefer]) (fun ⟨_, _, h⟩ => h) ?_
   go_wp2
   exact hK'
  case body =>
   intro l i W hi hX
   replace hi : i < l1.length := by simpa [uptoP] using hi
   obtain ⟨p, v, vp, vv, on, hb⟩ := hX
   rw [uptoP_drop l1 l2 i l1.length hi] at on
   simp only [poly_Through.l1, pairOf] at on
   obtain ⟨t1, h1, on⟩ := Option.bind_eq_some_iff.1 on
   obtain ⟨t2, h2, on⟩ := Option.bind_eq_some_iff.1 on
   obtain ⟨t3, h3, on⟩ := Option.bind_eq_some_iff.1 on
   obtain ⟨t4, h4, on⟩ := Option.bind_eq_some_iff.1 on
   obtain ⟨t5, h5, on⟩ := Option.bind_eq_some_iff.1 on
   obtain ⟨t6, h6, on⟩ := Option.bind_eq_some_iff.1 on
   obtain ⟨t7, h7, on⟩ := Option.bind_eq_some_iff.1 on
   obtain ⟨Ap, cp, rfl, hcp, hCp⟩ := Kd.R_reads hb.rp
   obtain ⟨Av, cv, rfl, hcv, hCv⟩ := Kd.R_reads hb.rv
   have H1 := ak h1; have H2 := ak h2; have H3 := ak h3; have H4 := ak h4; have H5 := ak h5; have H6 := ak h6; have H7 := ak h7; have ON := ak on; have HTB := ak hb
   have HCP := ak hcp; have HCV := ak hcv
   clear h1 h2 h3 h4 h5 h6 h7 on hb hcp hcv hCp hCv
   refine wpIn_block ?_
   have hkk_ := ak (KeepsP.refl (fun b => b < w.heap.size ∨ b = wr.heap.size + 3 ∨ b = wr.heap.size + 4) W)
   have hkf_ := ak (KeepsFrom.refl (wThru wr A1 A2 l1.length l2.length c1 c2).heap.size W)
   refine wpIn_seq ?_
   have hb : Below W.heap.size W W.drew := below_drew1 (Below.refl _ _)
   have nt_ := ak (HTB.out.below hb)
   have nk_ := ak (keepsP_step hkk_.out HTB.out hb)
   have nf_ := ak (keepsFrom_step hkf_.out hb)
   clear HTB hkk_ hkf_ hb
   have HTB := nt_
   have hkk_ := nk_
   have hkf_ := nf_
   clear nt_ nk_ nf_
   refine startIn_ (n := 14) (by simp [noDefer]) (fun ⟨_, _, h⟩ => h) (S := fun w' => w'.cell? ⟨w.heap.size, 0, none⟩ = some (.int .i64 a0) ∧ w'.cell? ⟨wr.heap.size, 0, none⟩ = some (.slice Ap p.length cp) ∧ w'.cell? ⟨wr.heap.size + 1 + 1, 0, none⟩ = some (.slice Av v.length cv)) (ds := []) #[false, false, false, false, false, false, false, false, false, false, false, false, false, false] (by kernel_rfl) rfl rfl ⟨HTB.out.cf, cell_of_one HTB.out.cp, cell_of_one HTB.out.cv⟩ (fun hHeld => ?_)
   refine pure_ (i := 2) (N := some 55) (v := ?_) (a' := ?_) (bv 14 4) rfl rfl (by kernel_rfl) (fun _ _ _ h => h) (Or.inl ⟨by rfl, ?_⟩) ?_ ?_
   rotate_left
   ·intro w'
    go_simp
    with_reducible rfl
   rotate_left
   ·simp only [Act.put, s1_, s2_, s3_, i64_w, i32_w]
    rfl
   refine pure_ (i := 5) (N := some 58) (v := ?_) (a' := ?_) (bv 14 36) rfl rfl (by kernel_rfl) (fun _ _ _ h => h) (Or.inl ⟨by rfl, ?_⟩) ?_ ?_
   rotate_left
   ·intro w'
    go_simp
    with_reducible rfl
   rotate_left
   ·simp only [Act.put, s1_, s2_, s3_, i64_w, i32_w]
    rfl
   refine pure_ (i := 10) (N := some 63) (v := ?_) (a' := ?_) (bv 14 1060) rfl rfl (by kernel_rfl) (fun _ _ _ h => h) (Or.inl ⟨by rfl, ?_⟩) ?_ ?_
   rotate_left
   ·intro w'
    go_simp
    with_reducible rfl
   rotate_left
   ·simp only [Act.put, s1_, s2_, s3_, i64_w, i32_w]
    rfl
   refine take_ (i := 0) (N := some 53) (v := ?_) (a' := ?_) (bv 14 1061) rfl rfl (by kernel_rfl) (fun _ _ _ h => h) (Or.inl ⟨by rfl, ?_⟩) hHeld ?_ ?_
   rotate_left
   ·rintro w' ⟨s0, s1, s2⟩
    go_simp
    with_reducible rfl
   rotate_left
   ·simp only [Act.put, s1_, s2_, s3_, i64_w, i32_w]
    rfl
   refine take_ (i := 1) (N := some 54) (v := ?_) (a' := ?_) (bv 14 1063) rfl rfl (by kernel_rfl) (fun _ _ _ h => h) (Or.inl ⟨by rfl, ?_⟩) hHeld ?_ ?_
   rotate_left
   ·rintro w' ⟨s0, s1, s2⟩
    go_simp
    with_reducible rfl
   rotate_left
   ·simp only [Act.put, s1_, s2_, s3_, i64_w, i32_w]
    rfl
   refine take_ (i := 3) (N := some 56) (v := ?_) (a' := ?_) (bv 14 1071) rfl rfl (by kernel_rfl) (fun _ _ _ h => h) (Or.inl ⟨by rfl, ?_⟩) hHeld ?_ ?_
   rotate_left
   ·rintro w' ⟨s0, s1, s2⟩
    go_simp
    with_reducible rfl
   rotate_left
   ·simp only [Act.put, s1_, s2_, s3_, i64_w, i32_w]
    rfl
   refine take_ (i := 4) (N := some 57) (v := ?_) (a' := ?_) (bv 14 1087) rfl rfl (by kernel_rfl) (fun _ _ _ h => h) (Or.inl ⟨by rfl, ?_⟩) hHeld ?_ ?_
   rotate_left
   ·rintro w' ⟨s0, s1, s2⟩
    go_simp
    with_reducible rfl
   rotate_left
   ·simp only [Act.put, s1_, s2_, s3_, i64_w, i32_w]
    rfl
   refine take_ (i := 8) (N := some 61) (v := ?_) (a' := ?_) (bv 14 1343) rfl rfl (by kernel_rfl) (fun _ _ _ h => h) (Or.inl ⟨by rfl, ?_⟩) hHeld ?_ ?_
   rotate_left
   ·rintro w' ⟨s0, s1, s2⟩
    go_simp
    with_reducible rfl
   rotate_left
   ·simp only [Act.put, s1_, s2_, s3_, i64_w, i32_w]
    rfl
   refine take_ (i := 9) (N := some 62) (v := ?_) (a' := ?_) (bv 14 1855) rfl rfl (by kernel_rfl) (fun _ _ _ h => h) (Or.inl ⟨by rfl, ?_⟩) hHeld ?_ ?_
   rotate_left
   ·rintro w' ⟨s0, s1, s2⟩
    go_simp
    with_reducible rfl
   rotate_left
   ·simp only [Act.put, s1_, s2_, s3_, i64_w, i32_w]
    rfl
   refine one_ (i := 6) (N := some 59) (bv 14 1919) rfl rfl (by kernel_rfl) (by decide) (fun K hK => ?_)
   refine goes_ Tryd.func46 (by kernel_rfl) rfl #[.int .i64 a0, .slice Ap p.length cp, .int .u64 (at64 l1 i)] (by rfl) rfl rfl (by simp only [List.map_toArray, List.map_cons, List.map_nil]; rfl) ?_
   with_reducible refine (poly_Eval.calls k a0 Ap cp p (at64 l1 i) t1 _ (Fld.below HG.out HTB.out.bel) (R_reads' HTB.out.rp).2.2 HCP.out H1.out).mono ?_
   rintro e w3 ⟨rfl, hb⟩
   refine ⟨_, rfl, ?_⟩
   have nt_ := ak (HTB.out.below hb)
   have nk_ := ak (keepsP_step hkk_.out HTB.out hb)
   have nf_ := ak (keepsFrom_step hkf_.out hb)
   clear HTB hkk_ hkf_ hb
   have HTB := nt_
   have hkk_ := nk_
   have hkf_ := nf_
   clear nt_ nk_ nf_
   refine hK.out _ _ ⟨HTB.out.cf, cell_of_one HTB.out.cp, cell_of_one HTB.out.cv⟩ (fun hHeld => ?_)
   clear hK K
   refine norm_ (a' := ?_) ?_ ?_
   rotate_left
   ·show Act.put _ (some 59) _ = _
    simp only [Act.put, s1_, s2_, s3_, i64_w, i32_w]
    rfl
   refine one_ (i := 7) (N := some 60) (bv 14 2047) rfl rfl (by kernel_rfl) (by decide) (fun K hK => ?_)
   refine goes_ Tryd.func73 (by kernel_rfl) rfl #[.int .i64 a0, .int .u64 (at64 l2 i), .int .u64 t1] (by rfl) rfl rfl (by simp only [List.map_toArray, List.map_cons, List.map_nil]; rfl) ?_
   with_reducible refine (field_Sub.calls a0 (at64 l2 i) t1 t2 _ (Fld.below HG.out HTB.out.bel) H2.out).mono ?_
   rintro e w3 ⟨rfl, hb⟩
   refine ⟨_, rfl, ?_⟩
   have nt_ := ak (HTB.out.below hb)
   have nk_ := ak (keepsP_step hkk_.out HTB.out hb)
   have nf_ := ak (keepsFrom_step hkf_.out hb)
   clear HTB hkk_ hkf_ hb
   have HTB := nt_
   have hkk_ := nk_
   have hkf_ := nf_
   clear nt_ nk_ nf_
   refine hK.out _ _ ⟨HTB.out.cf, cell_of_one HTB.out.cp, cell_of_one HTB.out.cv⟩ (fun hHeld => ?_)
   clear hK K
   refine norm_ (a' := ?_) ?_ ?_
   rotate_left
   ·show Act.put _ (some 60) _ = _
    simp only [Act.put, s1_, s2_, s3_, i64_w, i32_w]
    rfl
   refine one_ (i := 11) (N := some 64) (bv 14 4095) rfl rfl (by kernel_rfl) (by decide) (fun K hK => ?_)
   refine goes_ Tryd.func46 (by kernel_rfl) rfl #[.int .i64 a0, .slice Av v.length cv, .int .u64 (at64 l1 i)] (by rfl) rfl rfl (by simp only [List.map_toArray, List.map_cons, List.map_nil]; rfl) ?_
   with_reducible refine (poly_Eval.calls k a0 Av cv v (at64 l1 i) t3 _ (Fld.below HG.out HTB.out.bel) (R_reads' HTB.out.rv).2.2 HCV.out H3.out).mono ?_
   rintro e w3 ⟨rfl, hb⟩
   refine ⟨_, rfl, ?_⟩
   have nt_ := ak (HTB.out.below hb)
   have nk_ := ak (keepsP_step hkk_.out HTB.out hb)
   have nf_ := ak (keepsFrom_step hkf_.out hb)
   clear HTB hkk_ hkf_ hb
   have HTB := nt_
   have hkk_ := nk_
   have hkf_ := nf_
   clear nt_ nk_ nf_
   refine hK.out _ _ ⟨HTB.out.cf, cell_of_one HTB.out.cp, cell_of_one HTB.out.cv⟩ (fun hHeld => ?_)
   clear hK K
   refine norm_ (a' := ?_) ?_ ?_
   rotate_left
   ·show Act.put _ (some 64) _ = _
    simp only [Act.put, s1_, s2_, s3_, i64_w, i32_w]
    rfl
   refine one_ (i := 12) (N := some 65) (bv 14 8191) rfl rfl (by kernel_rfl) (by decide) (fun K hK => ?_)
   refine goes_ Tryd.func88 (by kernel_rfl) rfl #[.int .i64 a0, .int .u64 t2, .int .u64 t3] (by rfl) rfl rfl (by simp only [List.map_toArray, List.map_cons, List.map_nil]; rfl) ?_
   with_reducible refine (field_Div.calls k a0 t2 t3 t4 _ (Fld.below HG.out HTB.out.bel) H4.out).mono ?_
   rintro e w3 ⟨rfl, hb⟩
   refine ⟨_, rfl, ?_⟩
   have nt_ := ak (HTB.out.below hb)
   have nk_ := ak (keepsP_step hkk_.out HTB.out hb)
   have nf_ := ak (keepsFrom_step hkf_.out hb)
   clear HTB hkk_ hkf_ hb
   have HTB := nt_
   have hkk_ := nk_
   have hkf_ := nf_
   clear nt_ nk_ nf_
   refine hK.out _ _ ⟨HTB.out.cf, cell_of_one HTB.out.cp, cell_of_one HTB.out.cv⟩ (fun hHeld => ?_)
   clear hK K
   refine norm_ (a' := ?_) ?_ ?_
   rotate_left
   ·show Act.put _ (some 65) _ = _
    simp only [Act.put, s1_, s2_, s3_, i64_w, i32_w]
    rfl
   refine pure_ (i := 13) (N := some 15) (v := ?_) (a' := ?_) (bv 14 16383) rfl rfl (by kernel_rfl) (fun _ _ _ h => h) (Or.inl ⟨by rfl, ?_⟩) ?_ ?_
   rotate_left
   ·intro w'
    go_simp
    with_reducible rfl
   rotate_left
   ·simp only [Act.put, s1_, s2_, s3_, i64_w, i32_w]
    rfl
   refine done_ (by kernel_rfl) ?_
   show Code.wpIn _ _ _ _ _ _ _
   refine wpIn_seq ?_
   have hb : Below w3.heap.size w3 w3.drew := below_drew1 (Below.refl _ _)
   have nt_ := ak (HTB.out.below hb)
   have nk_ := ak (keepsP_step hkk_.out HTB.out hb)
   have nf_ := ak (keepsFrom_step hkf_.out hb)
   clear HTB hkk_ hkf_ hb
   have HTB := nt_
   have hkk_ := nk_
   have hkf_ := nf_
   clear nt_ nk_ nf_
   refine startIn_ (n := 8) (by simp [noDefer]) (fun ⟨_, _, h⟩ => h) (S := fun w' => w'.cell? ⟨w.heap.size, 0, none⟩ = some (.int .i64 a0) ∧ w'.cell? ⟨wr.heap.size, 0, none⟩ = some (.slice Ap p.length cp) ∧ w'.cell? ⟨wr.heap.size + 1 + 1, 0, none⟩ = some (.slice Av v.length cv)) (ds := [7]) #[false, false, false, false, false, false, false, false] (by kernel_rfl) rfl rfl ⟨HTB.out.cf, cell_of_one HTB.out.cp, cell_of_one HTB.out.cv⟩ (fun hHeld => ?_)
   refine pure_ (i := 4) (N := some 70) (v := ?_) (a' := ?_) (bv 8 16) rfl rfl (by kernel_rfl) (fun _ _ _ h => h) (Or.inl ⟨by rfl, ?_⟩) ?_ ?_
   rotate_left
   ·intro w'
    go_simp
    with_reducible rfl
   rotate_left
   ·simp only [Act.put, s1_, s2_, s3_, i64_w, i32_w]
    rfl
   refine take_ (i := 0) (N := some 66) (v := ?_) (a' := ?_) (bv 8 17) rfl rfl (by kernel_rfl) (fun _ _ _ h => h) (Or.inl ⟨by rfl, ?_⟩) hHeld ?_ ?_
   rotate_left
   ·rintro w' ⟨s0, s1, s2⟩
    go_simp
    with_reducible rfl
   rotate_left
   ·simp only [Act.put, s1_, s2_, s3_, i64_w, i32_w]
    rfl
   refine take_ (i := 1) (N := some 67) (v := ?_) (a' := ?_) (bv 8 19) rfl rfl (by kernel_rfl) (fun _ _ _ h => h) (Or.inl ⟨by rfl, ?_⟩) hHeld ?_ ?_
   rotate_left
   ·rintro w' ⟨s0, s1, s2⟩
    go_simp
    with_reducible rfl
   rotate_left
   ·simp only [Act.put, s1_, s2_, s3_, i64_w, i32_w]
    rfl
   refine take_ (i := 2) (N := some 68) (v := ?_) (a' := ?_) (bv 8 23) rfl rfl (by kernel_rfl) (fun _ _ _ h => h) (Or.inl ⟨by rfl, ?_⟩) hHeld ?_ ?_
   rotate_left
   ·rintro w' ⟨s0, s1, s2⟩
    go_simp
    with_reducible rfl
   rotate_left
   ·simp only [Act.put, s1_, s2_, s3_, i64_w, i32_w]
    rfl
   refine take_ (i := 3) (N := some 69) (v := ?_) (a' := ?_) (bv 8 31) rfl rfl (by kernel_rfl) (fun _ _ _ h => h) (Or.inl ⟨by rfl, ?_⟩) hHeld ?_ ?_
   rotate_left
   ·rintro w' ⟨s0, s1, s2⟩
    go_simp
    with_reducible rfl
   rotate_left
   ·simp only [Act.put, s1_, s2_, s3_, i64_w, i32_w]
    rfl
   refine one_ (i := 5) (N := some 71) (bv 8 63) rfl rfl (by kernel_rfl) (by decide) (fun K hK => ?_)
   refine goes_ Tryd.func90 (by kernel_rfl) rfl #[.int .i64 a0, .slice Av v.length cv, .int .u64 t4] (by rfl) rfl rfl (by simp only [List.map_toArray, List.map_cons, List.map_nil]; rfl) ?_
   with_reducible refine (poly_Scale.calls k a0 Av cv v t4 t5 _ (Fld.below HG.out HTB.out.bel) (R_reads' HTB.out.rv).2.2 HCV.out H5.out).mono ?_
   rintro e w3 ⟨v0_, rfl, hR, hb⟩
   obtain ⟨Asc, csc, rfl, hsc, _⟩ := Kd.R_reads hR
   refine ⟨_, rfl, ?_⟩
   have Hsc := ak hsc
   have Rsc := ak (R_mono (R_lower hR HTB.out.bel.size) (fun _ _ => trivial) : Kd.R (Kd.int .u64) 22 w3 w.heap.size (fun _ => True) _ _)
   clear hsc hR
   have nt_ := ak (HTB.out.below hb)
   have nk_ := ak (keepsP_step hkk_.out HTB.out hb)
   have nf_ := ak (keepsFrom_step hkf_.out hb)
   clear HTB hkk_ hkf_ hb
   have HTB := nt_
   have hkk_ := nk_
   have hkf_ := nf_
   clear nt_ nk_ nf_
   refine hK.out _ _ ⟨HTB.out.cf, cell_of_one HTB.out.cp, cell_of_one HTB.out.cv⟩ (fun hHeld => ?_)
   clear hK K
   refine norm_ (a' := ?_) ?_ ?_
   rotate_left
   ·show Act.put _ (some 71) _ = _
    simp only [Act.put, s1_, s2_, s3_, i64_w, i32_w]
    rfl
   refine one_ (i := 6) (N := some 72) (bv 8 127) rfl rfl (by kernel_rfl) (by decide) (fun K hK => ?_)
   refine goes_ Tryd.func89 (by kernel_rfl) rfl #[.int .i64 a0, .slice Ap p.length cp, .slice Asc t5.length csc] (by rfl) rfl rfl (by simp only [List.map_toArray, List.map_cons, List.map_nil]; rfl) ?_
   with_reducible refine (poly_Add.calls k a0 Ap cp p Asc csc t5 t6 _ (Fld.below HG.out HTB.out.bel) (R_reads' HTB.out.rp).2.2 HCP.out (R_reads' Rsc.out).2.2 Hsc.out H6.out).mono ?_
   rintro e w3 ⟨v0_, rfl, hR, hb⟩
   obtain ⟨Aad, cad, rfl, had, _⟩ := Kd.R_reads hR
   refine ⟨_, rfl, ?_⟩
   have Had := ak had
   have Rad := ak (R_mono (R_lower hR HTB.out.bel.size) (fun _ _ => trivial) : Kd.R (Kd.int .u64) 22 w3 w.heap.size (fun _ => True) _ _)
   clear had hR
   have nt_ := ak (HTB.out.below hb)
   have nk_ := ak (keepsP_step hkk_.out HTB.out hb)
   have nf_ := ak (keepsFrom_step hkf_.out hb)
   clear HTB hkk_ hkf_ hb
   have HTB := nt_
   have hkk_ := nk_
   have hkf_ := nf_
   clear nt_ nk_ nf_
   refine hK.out _ _ ⟨HTB.out.cf, cell_of_one HTB.out.cp, cell_of_one HTB.out.cv⟩ (fun hHeld => ?_)
   clear hK K
   refine norm_ (a' := ?_) ?_ ?_
   rotate_left
   ·show Act.put _ (some 72) _ = _
    simp only [Act.put, s1_, s2_, s3_, i64_w, i32_w]
    rfl
   refine last_ (i := 7) (N := none) #[true, true, true, true, true, true, true, true] rfl rfl (by kernel_rfl) (by decide) (fun K hK => ?_)
   have hcP_ := cell_of_one HTB.out.cp
   have hfP_ := free_of_one HTB.out.cp
   refine skip_ (w1 := ?_) (by rfl) rfl ?_ ?_
   rotate_left
   ·go_simp
    rfl
   refine hK.out _ _ ?_
   clear hK K
   refine done_ (by kernel_rfl) ?_
   have nt_ := ak (HTB.out.putP (Nat.lt_of_succ_lt hwr) Rad.out)
   have nk_ := ak (KeepsP.setCell hkk_.out (b := wr.heap.size) (.slice Aad t6.length cad) (by rintro (h | h | h) <;> omega))
   have nf_ := ak (keepsFrom_setCell hkf_.out HTB.out.cp (.slice Aad t6.length cad))
   clear HTB hkk_ hkf_
   have HTB := nt_
   have hkk_ := nk_
   have hkf_ := nf_
   clear nt_ nk_ nf_
   clear hcP_ hfP_ hHeld
   show Code.wpIn _ _ _ _ _ _ _
   refine regIn_list (by simp [noDefer]) (fun ⟨_, _, h⟩ => h) ?_
   have hc1_ := HTB.out.cf
   have hc2_ := cell_of_one HTB.out.cv
   go_wp2_with (go_at_call 91; (with_reducible refine (poly_times.calls k a0 Av cv v (at64 l1 i) t7 _ (Fld.below HG.out HTB.out.bel) ((R_reads' HTB.out.rv).2.2) ?sc H7.out).mono ?_); (case sc => exact HCV.out); rintro e w3 ⟨v0_, rfl, hR, hb⟩; obtain ⟨Atm, ctm, rfl, htm, _⟩ := Kd.R_reads hR; have Rtm := ak (R_mono (R_lower hR HTB.out.bel.size) (fun _ _ => trivial) : Kd.R (Kd.int .u64) 22 w3 w.heap.size (fun _ => True) _ _); clear htm hR; have nt_ := ak (HTB.out.below hb); have nk_ := ak (keepsP_step hkk_.out HTB.out hb); have nf_ := ak (keepsFrom_step hkf_.out hb); clear HTB hkk_ hkf_ hb; have HTB := nt_; have hkk_ := nk_; have hkf_ := nf_; clear nt_ nk_ nf_; have hc3_ := cell_of_one HTB.out.cv; have hf3_ := free_of_one HTB.out.cv)
   have nt_ := ak (HTB.out.putV (Nat.lt_of_succ_lt hwr) Rtm.out)
   have nk_ := ak (KeepsP.setCell hkk_.out (b := wr.heap.size + 1 + 1) (.slice Atm t7.length ctm) (by rintro (h | h | h) <;> omega))
   have nf_ := ak (keepsFrom_setCell hkf_.out HTB.out.cv (.slice Atm t7.length ctm))
   clear HTB hkk_ hkf_
   have HTB := nt_
   have hkk_ := nk_
   have hkf_ := nf_
   clear nt_ nk_ nf_
   exact ⟨hkf_.out, hkk_.out, _, _, _, _, ON.out, HTB.out⟩
  case done =>
   intro D W hD hX hDf
   rw [show ((uptoP l1 l2 l1.length).map encsP).length = l1.length by simp [uptoP]] at hX
   obtain ⟨p, v, vp, vv, on, hb⟩ := hX
   rw [List.drop_of_length_le (by simp [uptoP])] at on
   simp only [poly_Through.l1, Option.some.injEq] at on
   subst on
   obtain ⟨Ap, cp, rfl, hcp, hCp⟩ := Kd.R_reads hb.rp
   have HTB := ak hb
   have hc1_ := cell_of_one hb.cp
   have HCP := ak hcp
   clear hb hCp hcp
   go_wp2
   refine ⟨by simp, .inl ⟨_, _, rfl, run_takeDeferred hDf, ?_⟩⟩
   refine ⟨_, results_tmp2 rfl _ _ _, _, rfl, ?_, ?_⟩
   ·exact rowOf_grown HTB.out.rp (grownBy_putObj' _ _ _) (fun r e => by cases e; exact ⟨_, hDf, rfl⟩) rfl
   exact HTB.out.bel.grown (grownBy_putObj' _ _ _) HTB.out.bel.size (fun b e => by cases e; have := wThru_size wr A1 A2 l1.length l2.length c1 c2; have h : (wThru wr A1 A2 l1.length l2.length c1 c2).heap.size ≤ D := hD; omega)

set_option maxRecDepth 100000 in
set_option maxHeartbeats 4000000 in
theorem poly_Through.calls (k : Nat) (a0 : Int) (A1 : Option Addr) (c1 : Nat) (l1 : List Int) (A2 : Option Addr) (c2 : Nat) (l2 : List Int) (r1 : List Int) (r2 : Int) (w : World) (hG : Fld w) (hr1 : Kd.C (Kd.int .u64) w A1 l1.length l1) (hc1 : l1.length ≤ c1) (hr2 : Kd.C (Kd.int .u64) w A2 l2.length l2) (hc2 : l2.length ≤ c2)
  (h : poly_Through.f k a0 l1 l2 = some (r1, r2)) :
  Calls Tryd.prog 63 #[.int .i64 a0, .slice A1 l1.length c1, .slice A2 l2.length c2] w fun e w' => ∃ v0_ : Value, e = .returned (.tuple #[v0_, .int .i64 r2]) ∧ Kd.R (Kd.int .u64) 22 w' w.heap.size (fun _ => True) v0_ r1 ∧ Below w.heap.size w w' := by
 unfold poly_Through.f at h
 obtain ⟨t, ht, h⟩ := Option.bind_eq_some_iff.1 h
 have HG := ak hG
 have HR1 := ak hr1
 have HR2 := ak hr2
 have HT := ak ht
 clear hG hr1 hr2 ht
 have finR : Aside0 (∀ W, Kd.R (Kd.int .u64) 22 W w.heap.size (fun _ => True) (.slice none 0 0) []) := ⟨fun _ => Kd.R_nil _ _ _ _ _⟩
 cases t with
 | false =>
  rw [if_neg (by simp)] at h
  simp only [Option.some.injEq, Prod.mk.injEq] at h
  obtain ⟨rfl, rfl⟩ := h
  go_enter Tryd.func63, Tryd.ntmps63
  go_wp2_with (go_at_call 49; (with_reducible refine (field_Valid.calls a0 false _ HT.out).mono ?_); rintro e w' ⟨rfl, ⟨nd, rfl⟩⟩)
  go_ret2
  exact ⟨_, rfl, finR.out _, by repeat (first | exact Below.refl _ _ | apply below_alloc | apply pw_below_drewN | apply below_drew1)⟩
 | true =>
  by_cases hl : l1.length = l2.length
  ·rw [if_pos ⟨rfl, hl⟩] at h
   by_cases hs : l1.length ≤ 1024
   ·rw [if_pos hs] at h
    obtain ⟨d, hd, h⟩ := Option.bind_eq_some_iff.1 h
    have e1 : (((l1.length : Nat) : Int) != ((l2.length : Nat) : Int)) = false := by simp [hl]
    have e2 : decide ((1024 : Int) < (l1.length : Int)) = false := by simp; omega
    cases d with
    | true =>
     rw [if_pos rfl] at h
     simp only [Option.some.injEq, Prod.mk.injEq] at h
     exact through_dup k a0 A1 c1 l1 A2 c2 l2 r1 r2 w HG HR1 HT finR hc1 hs (Lib.hid hl) e1 e2 ⟨hd⟩ h
    | false =>
     rw [if_neg (by simp)] at h
     obtain ⟨p, hp, h2⟩ := Option.bind_eq_some_iff.1 h
     simp only [Option.some.injEq, Prod.mk.injEq] at h2
     obtain ⟨h3, h4⟩ := h2
     subst h3
     exact through_fine k a0 A1 c1 l1 A2 c2 l2 p r2 w HG HR1 HR2 HT finR hc1 hs (Lib.hid hl) e1 e2 ⟨hd⟩ ⟨hp⟩ h4
   rw [if_neg hs] at h
   simp only [Option.some.injEq, Prod.mk.injEq] at h
   obtain ⟨rfl, rfl⟩ := h
   have e1 : (((l1.length : Nat) : Int) != ((l2.length : Nat) : Int)) = false := by simp [hl]
   have e2 : decide ((1024 : Int) < (l1.length : Int)) = true := by simp; omega
   have HL := Lib.hid hl
   clear hl
   go_enter Tryd.func63, Tryd.ntmps63
   go_wp2_with (go_at_call 49; (with_reducible refine (field_Valid.calls a0 true _ HT.out).mono ?_); rintro e w' ⟨rfl, ⟨nd, rfl⟩⟩)
   go_ret2
   exact ⟨_, rfl, finR.out _, by repeat (first | exact Below.refl _ _ | apply below_alloc | apply pw_below_drewN | apply below_drew1)⟩
  rw [if_neg (by simp [hl])] at h
  simp only [Option.some.injEq, Prod.mk.injEq] at h
  obtain ⟨rfl, rfl⟩ := h
  have e1 : (((l1.length : Nat) : Int) != ((l2.length : Nat) : Int)) = true := by simp; omega
  have e3 : (l1.length == l2.length) = false := by simpa using hl
  clear hl
  go_enter Tryd.func63, Tryd.ntmps63
  go_wp2_with (go_at_call 49; (with_reducible refine (field_Valid.calls a0 true _ HT.out).mono ?_); rintro e w' ⟨rfl, ⟨nd, rfl⟩⟩)
  go_ret2
  exact ⟨_, rfl, finR.out _, by repeat (first | exact Below.refl _ _ | apply below_alloc | apply pw_below_drewN | apply below_drew1)⟩
theorem poly_Through.mono_l : ∀ (a0 : Int) (l : List (Int × Int)) (p v : List Int) (k : Nat), LeO (poly_Through.l1 k a0 l p v) (poly_Through.l1 (k + 1) a0 l p v)
 | _, [], _, _, _ => LeO.refl _
 | a0, z :: r, p, v, k => by
  simp only [poly_Through.l1]
  exact LeO.bind (poly_Eval.mono _ _ _ _) fun _ => LeO.bind (LeO.refl _) fun _ => LeO.bind (poly_Eval.mono _ _ _ _) fun _ => LeO.bind (field_Div.mono _ _ _ _) fun _ => LeO.bind (poly_Scale.mono _ _ _ _) fun _ => LeO.bind (poly_Add.mono _ _ _ _) fun _ => LeO.bind (poly_times.mono _ _ _ _) fun _ => poly_Through.mono_l _ _ _ _ _
theorem poly_Through.mono : ∀ a0 l1 l2 k, LeO (poly_Through.f k a0 l1 l2) (poly_Through.f (k + 1) a0 l1 l2) := by
 intro a0 l1 l2 k
 unfold poly_Through.f
 refine LeO.bind (LeO.refl _) (fun _ => LeO.ite (LeO.ite (LeO.bind (LeO.refl _) fun _ => LeO.ite (LeO.refl _) (LeO.bind (poly_Through.mono_l _ _ _ _ _) fun _ => LeO.refl _)) (LeO.refl _)) (LeO.refl _))

mutual
def code_Fill.j0 : Nat → List Int → List Bool → Int → Bool → Int → Int → Int → Option (List Int × Int)
 | 0, _, _, _, _, _, _, _ => none
 | k + 1, x1, x2, x3, x20, x321000, x321001, x321002 => if x20 = true then (some (([] : List Int), 1)) else (if x3 < 0 then (code_Fill.j1 k x1 x2 x3 true x321000 x321001 x321002) else (code_Fill.j1 k x1 x2 x3 (decide (x3 > (x1.length : Int))) x321000 x321001 x321002))
def code_Fill.j1 : Nat → List Int → List Bool → Int → Bool → Int → Int → Int → Option (List Int × Int)
 | 0, _, _, _, _, _, _, _ => none
 | k + 1, x1, x2, x3, x32, x321000, x321001, x321002 => if x32 = true then (some (([] : List Int), 2)) else (if x3 > 1024 then (some (([] : List Int), 3)) else ((code_Points.f k x321000 x321001 x321002).bind fun t322 => (code_Fill.l0 k x1 x2 x3 t322 ([] : List Int) ([] : List Int) x2 (x2.length : Int) 0 x321000 x321001 x321002)))
def code_Fill.l0 : Nat → List Int → List Bool → Int → List Int → List Int → List Int → List Bool → Int → Int → Int → Int → Int → Option (List Int × Int)
 | 0, _, _, _, _, _, _, _, _, _, _, _, _ => none
 | k + 1, x1, x2, x3, x10, x11, x12, x46, x47, x48, x321000, x321001, x321002 => if x48 < x47 then (if 0 ≤ x48 then (if x48 < (x46.length : Int) then (if rdOf false x46 x48 = true then (if (x11.length : Int) < x3 then (if x48 < (x10.length : Int) then ((some (([rd x10 x48] : List Int) : List Int)).bind fun y327 => (if x11.length + y327.length < 17592186044416 then (if x48 < (x1.length : Int) then ((some (([rd x1 x48] : List Int) : List Int)).bind fun y334 => (if x12.length + y334.length < 17592186044416 then (code_Fill.l0 k x1 x2 x3 x10 (x11 ++ y327) (x12 ++ y334) x46 x47 (wrap64 (x48 + 1)) x321000 x321001 x321002) else (none))) else (none)) else (none))) else (none)) else (code_Fill.l0 k x1 x2 x3 x10 x11 x12 x46 x47 (wrap64 (x48 + 1)) x321000 x321001 x321002)) else (code_Fill.l0 k x1 x2 x3 x10 x11 x12 x46 x47 (wrap64 (x48 + 1)) x321000 x321001 x321002)) else (none)) else (none)) else (if (x11.length : Int) < x3 then (some (([] : List Int), 5)) else ((poly_Through.f k x321000 x11 x12).bind fun bt340 => (if bt340.2 = 0 then ((transform_Values.f k x321000 x321001 x321002 bt340.1).bind fun bt344 => (if bt344.2 = 0 then (code_Fill.l1 k x1 bt344.1 x2 (x2.length : Int) 0 x321000 x321001 x321002) else (some (([] : List Int), bt344.2)))) else (some (([] : List Int), bt340.2)))))
def code_Fill.l1 : Nat → List Int → List Int → List Bool → Int → Int → Int → Int → Int → Option (List Int × Int)
 | 0, _, _, _, _, _, _, _, _ => none
 | k + 1, x1, x17, x104, x105, x106, x321000, x321001, x321002 => if x106 < x105 then (if 0 ≤ x106 then (if x106 < (x104.length : Int) then (if rdOf false x104 x106 = true then (if x106 < (x17.length : Int) then (if x106 < (x1.length : Int) then ((field_Reduce.f x321000 (rd x1 x106)).bind fun t351 => (if (rd x17 x106) = t351 then (code_Fill.l1 k x1 x17 x104 x105 (wrap64 (x106 + 1)) x321000 x321001 x321002) else (some (([] : List Int), 7)))) else (none)) else (none)) else (code_Fill.l1 k x1 x17 x104 x105 (wrap64 (x106 + 1)) x321000 x321001 x321002)) else (none)) else (none)) else (some (x17, 0))
end
def code_Fill.f (k : Nat) (a0_0 : Int) (a0_1 : Int) (a0_2 : Int) (l1 : List Int) (l2 : List Bool) (a3 : Int) : Option (List Int × Int) := (code_isWord.f a0_0 a0_1 a0_2 l1).bind fun t321 => (if t321 = true then (code_Fill.j0 k l1 l2 a3 ((l2.length : Int) != (l1.length : Int)) a0_0 a0_1 a0_2) else (code_Fill.j0 k l1 l2 a3 true a0_0 a0_1 a0_2))
theorem code_Fill.mono_l : ∀ k, (∀ y0 y1 y2 y3 y4 y5 y6, LeO (code_Fill.j0 k y0 y1 y2 y3 y4 y5 y6) (code_Fill.j0 (k + 1) y0 y1 y2 y3 y4 y5 y6)) ∧ (∀ y0 y1 y2 y3 y4 y5 y6, LeO (code_Fill.j1 k y0 y1 y2 y3 y4 y5 y6) (code_Fill.j1 (k + 1) y0 y1 y2 y3 y4 y5 y6)) ∧ (∀ y0 y1 y2 y3 y4 y5 y6 y7 y8 y9 y10 y11, LeO (code_Fill.l0 k y0 y1 y2 y3 y4 y5 y6 y7 y8 y9 y10 y11) (code_Fill.l0 (k + 1) y0 y1 y2 y3 y4 y5 y6 y7 y8 y9 y10 y11)) ∧ (∀ y0 y1 y2 y3 y4 y5 y6 y7, LeO (code_Fill.l1 k y0 y1 y2 y3 y4 y5 y6 y7) (code_Fill.l1 (k + 1) y0 y1 y2 y3 y4 y5 y6 y7))
 | 0 => ⟨fun _ _ _ _ _ _ _ r h => by simp [code_Fill.j0] at h, fun _ _ _ _ _ _ _ r h => by simp [code_Fill.j1] at h, fun _ _ _ _ _ _ _ _ _ _ _ _ r h => by simp [code_Fill.l0] at h, fun _ _ _ _ _ _ _ _ r h => by simp [code_Fill.l1] at h⟩
 | k + 1 => by
  obtain ⟨ih0, ih1, ih2, ih3⟩ := code_Fill.mono_l k
  refine ⟨?_, ?_, ?_, ?_⟩
  ·intro y0 y1 y2 y3 y4 y5 y6
   unfold code_Fill.j0
   with_reducible repeat' first | apply ih0 | apply ih1 | apply ih2 | apply ih3 | apply code_Points.mono | apply poly_Through.mono | apply transform_Values.mono | exact LeO.refl _ | exact LeO.none _ | refine LeO.ite ?_ ?_ | refine LeO.bind ?_ (fun _ => ?_)
  ·intro y0 y1 y2 y3 y4 y5 y6
   unfold code_Fill.j1
   with_reducible repeat' first | apply ih0 | apply ih1 | apply ih2 | apply ih3 | apply code_Points.mono | apply poly_Through.mono | apply transform_Values.mono | exact LeO.refl _ | exact LeO.none _ | refine LeO.ite ?_ ?_ | refine LeO.bind ?_ (fun _ => ?_)
  ·intro y0 y1 y2 y3 y4 y5 y6 y7 y8 y9 y10 y11
   unfold code_Fill.l0
   with_reducible repeat' first | apply ih0 | apply ih1 | apply ih2 | apply ih3 | apply code_Points.mono | apply poly_Through.mono | apply transform_Values.mono | exact LeO.refl _ | exact LeO.none _ | refine LeO.ite ?_ ?_ | refine LeO.bind ?_ (fun _ => ?_)
  intro y0 y1 y2 y3 y4 y5 y6 y7
  unfold code_Fill.l1
  with_reducible repeat' first | apply ih0 | apply ih1 | apply ih2 | apply ih3 | apply code_Points.mono | apply poly_Through.mono | apply transform_Values.mono | exact LeO.refl _ | exact LeO.none _ | refine LeO.ite ?_ ?_ | refine LeO.bind ?_ (fun _ => ?_)
theorem code_Fill.mono : ∀ a0 a1 a2 a3 a4 a5 k, LeO (code_Fill.f k a0 a1 a2 a3 a4 a5) (code_Fill.f (k + 1) a0 a1 a2 a3 a4 a5) := by
 intro a0 a1 a2 a3 a4 a5 k
 obtain ⟨ih0, ih1, ih2, ih3⟩ := code_Fill.mono_l k
 unfold code_Fill.f
 with_reducible repeat' first | apply ih0 | apply ih1 | apply ih2 | apply ih3 | apply code_Points.mono | apply poly_Through.mono | apply transform_Values.mono | exact LeO.refl _ | exact LeO.none _ | refine LeO.ite ?_ ?_ | refine LeO.bind ?_ (fun _ => ?_)
def code_Fill.T13 : Bool × List (List Nat × List Nat) := (true, [([], []), ([], []), ([], []), ([1, 2], [1, 2]), ([3], [3]), ([4], [4]), ([0, 5], [0, 5]), ([], []), ([], []), ([], []), ([8, 9], [8, 9]), ([10], [10]), ([11], [11]), ([7, 12, 6], [7, 12]), ([6, 13, 0, 1, 2, 3, 4, 5, 6], [0, 6]), ([13, 14, 0, 1, 2, 3, 4, 5, 6, 7, 8, 9, 10, 11, 12, 13, 14], [7, 13])])
def code_Fill.B13 : List Nat := [0, 0, 0, 6, 14, 30, 63, 0, 0, 0, 768, 1792, 3840, 8191, 16383, 32767]
theorem code_Fill.tab13 : rtab .any (opsOf Tryd.f29 13) = code_Fill.T13 := by kernel_rfl
theorem code_Fill.bits13 : waitsOk code_Fill.T13.2 code_Fill.B13 = true := by kernel_rfl
def code_Fill.T26 : Bool × List (List Nat × List Nat) := (true, [([], []), ([0], [0]), ([1], [1]), ([1], [1]), ([2, 3, 1], [1, 2, 3]), ([4, 1], [1, 4]), ([1], [1]), ([6, 1], [1, 6]), ([1], [1]), ([1], [1]), ([8, 9, 1], [1, 8, 9]), ([10, 1], [1, 10]), ([7, 11, 1, 1], [1, 7, 11]), ([5, 12, 1], [1, 5, 12]), ([1, 13], [1, 13])])
def code_Fill.B26 : List Nat := [0, 1, 3, 3, 15, 31, 3, 67, 3, 3, 771, 1795, 4035, 8191, 16383]
theorem code_Fill.tab26 : rtab .any (opsOf Tryd.f29 26) = code_Fill.T26 := by kernel_rfl
theorem code_Fill.bits26 : waitsOk code_Fill.T26.2 code_Fill.B26 = true := by kernel_rfl
set_option maxHeartbeats 8000000 in
set_option maxRecDepth 100000 in
theorem code_Fill.calls (k : Nat) (a0_0 : Int) (a0_1 : Int) (a0_2 : Int) (A1 : Option Addr) (c1 : Nat) (l1 : List Int) (A2 : Option Addr) (c2 : Nat) (l2 : List Bool) (a3 : Int) (r1 : List Int) (r2 : Int) (w : World) (hG : Fld w) (hr1 : Kd.C (Kd.int .u64) w A1 l1.length l1) (hc1 : l1.length ≤ c1) (hr2 : Kd.C Kd.bool w A2 l2.length l2) (hc2 : l2.length ≤ c2) (h : code_Fill.f k a0_0 a0_1 a0_2 l1 l2 a3 = some (r1, r2)) :
  Calls Tryd.prog 29 #[.agg #[.int .i64 a0_0, .int .i64 a0_1, .int .u64 a0_2], .slice A1 l1.length c1, .slice A2 l2.length c2, .int .i64 a3] w fun e w' => ∃ v0_ : Value, e = .returned (.tuple #[v0_, .int .i64 r2]) ∧ Kd.R (Kd.int .u64) 22 w' w.heap.size (fun _ => True) v0_ r1 ∧ Below w.heap.size w w' := by
 have hu24 := Tryd.underlying24
 have HG := ak hG
 clear hG
 have HR1 := ak hr1
 have HC1 := ak hc1
 clear hr1 hc1
 have HR2 := ak hr2
 have HC2 := ak hc2
 clear hr2 hc2
 have HB := ak (Below.refl w.heap.size w)
 have H := h
 clear h
 unfold code_Fill.f at H
 have HC5 := ak H
 clear H
 go_enter Tryd.func29, Tryd.ntmps29
 go_upto_region 1 with (first | ((with_reducible refine gate_dst (N := 4) rfl ?_); (try (refine gate_guard (by rfl) ?_; dsimp only)); refine bx_ 4 24 #[.int .i64 a0_0, .int .i64 a0_1, .int .u64 a0_2] ?_; intro gb320 hg w6 hbox hb; refine nx4_ (below_step (bU_ HB.out) hb) (hbox) ((hs_ hg (below_size (bU_ HB.out)))) ((hs_ hg (below_size (bU_ HB.out)))) ?_; clear HB; intro HB BK320 GW320 GE320; clear hb hbox hg))
 (try simp only [Act.put, s1_, s2_, s3_])
 go_cut [20] (fun v20 wc => ∃ (kq : Nat) (x20_4 : Bool), v20 = .bool x20_4 ∧ Aside0 (code_Fill.j0 kq l1 l2 a3 x20_4 a0_0 a0_1 a0_2 = some (r1, r2)) ∧ Aside0 (kq ≤ k) ∧ Aside0 (wc.heap[gb320]? = some (.cells #[.int .i64 a0_0, .int .i64 a0_1, .int .u64 a0_2] 24 (0, 0))) ∧ Aside0 (Below w.heap.size w wc))
 case first =>
  have H := HC5.out
  clear HC5
  revert H
  refine bd_ fun t321 A7 H => ?_
  by_cases c8 : t321 = true
  ·subst c8
   rw [if_pos rfl] at H
   have H' := ak H
   clear H
   have hcz9_0 := bc0_ BK320.out
   have hcz9_1 := bc1_ BK320.out
   have hcz9_2 := bc2_ BK320.out
   have hfz9_0 := blk_frozen BK320.out 0
   have hfz9_1 := blk_frozen BK320.out 1
   have hfz9_2 := blk_frozen BK320.out 2
   go_wp2_with (first | ((with_reducible refine gate_callee (f := 62) rfl ?_); refine gl_ (some 23) Tryd.func62 #[.agg #[.int .i64 a0_0, .int .i64 a0_1, .int .u64 a0_2], .slice A1 l1.length c1] ?_; (with_reducible refine (code_isWord.calls a0_0 a0_1 a0_2 _ _ l1 true _ ?side1 ?side2 ?side3 A7.out).mono ?_); (case side1 => repeat (first | with_reducible exact HG.out | with_reducible exact (Fld.below HG.out HB.out) | exact (Fld.below HG.out sU_) | (with_reducible refine Fld.alloc ?_ _) | (with_reducible refine Fld.drewN ?_ _) | (with_reducible refine Fld.drew ?_))); (case side2 => exact cU_ (C_below HR1.out HB.out)); (case side3 => exact HC1.out); rintro e w10 ⟨rfl, hb⟩; refine ⟨_, rfl, ?_⟩; refine nx2_ (blk_below (kU_ BK320.out) hb) (below_step sU_ hb) ?_; clear BK320 HB; intro BK320 HB; clear hb))
   go_meet
   case rel => exact ⟨_, (((l2.length : Int) != (l1.length : Int))), gb_, H', ⟨by first | omega | exact Nat.le_refl _⟩, ⟨by (with_reducible repeat (first | refine blk_drewN ?_ _ | refine blk_drew ?_ | refine blk_alloc ?_ _)); exact BK320.out⟩, ⟨sU_⟩⟩
  replace c8 := Bool.eq_false_iff.mpr c8
  subst c8
  rw [if_neg (show ¬ (false = true) by decide)] at H
  have H' := ak H
  clear H
  have hcz11_0 := bc0_ BK320.out
  have hcz11_1 := bc1_ BK320.out
  have hcz11_2 := bc2_ BK320.out
  have hfz11_0 := blk_frozen BK320.out 0
  have hfz11_1 := blk_frozen BK320.out 1
  have hfz11_2 := blk_frozen BK320.out 2
  go_wp2_with (first | ((with_reducible refine gate_callee (f := 62) rfl ?_); refine gl_ (some 23) Tryd.func62 #[.agg #[.int .i64 a0_0, .int .i64 a0_1, .int .u64 a0_2], .slice A1 l1.length c1] ?_; (with_reducible refine (code_isWord.calls a0_0 a0_1 a0_2 _ _ l1 false _ ?side1 ?side2 ?side3 A7.out).mono ?_); (case side1 => repeat (first | with_reducible exact HG.out | with_reducible exact (Fld.below HG.out HB.out) | exact (Fld.below HG.out sU_) | (with_reducible refine Fld.alloc ?_ _) | (with_reducible refine Fld.drewN ?_ _) | (with_reducible refine Fld.drew ?_))); (case side2 => exact cU_ (C_below HR1.out HB.out)); (case side3 => exact HC1.out); rintro e w12 ⟨rfl, hb⟩; refine ⟨_, rfl, ?_⟩; refine nx2_ (blk_below (kU_ BK320.out) hb) (below_step sU_ hb) ?_; clear BK320 HB; intro BK320 HB; clear hb))
  go_meet
  case rel => exact ⟨_, (true), gb_, H', ⟨by first | omega | exact Nat.le_refl _⟩, ⟨by (with_reducible repeat (first | refine blk_drewN ?_ _ | refine blk_drew ?_ | refine blk_alloc ?_ _)); exact BK320.out⟩, ⟨sU_⟩⟩
 case rest =>
  clear HC5
  (try clear c1); (try clear c2); (try clear p2); (try clear c6); (try clear c8); (try clear hcz11_0); (try clear hcz11_1); (try clear hcz11_2); (try clear hcz9_0); (try clear hcz9_1); (try clear hcz9_2); (try clear hfz11_0); (try clear hfz11_1); (try clear hfz11_2); (try clear hfz9_0); (try clear hfz9_1); (try clear hfz9_2)
  obtain ⟨kq, x20_4, rfl, HA, HJ4, BK320, HB⟩ := hcut
  cases kq with
  | zero => exact absurd HA.out (by simp [code_Fill.j0])
  | succ kj4 =>
   have H := HA.out
   clear HA
   simp only [code_Fill.j0] at H
   by_cases c13 : x20_4 = true
   ·subst c13
    rw [if_pos rfl] at H
    simp only [Option.some.injEq, Prod.mk.injEq] at H
    obtain ⟨rfl, rfl⟩ := H
    go_wp2
    go_ret2
    exact ⟨_, eW_, by first | exact Kd.R_nil _ _ _ _ _ | exact Kd.N_nil _ _ _ _ _ | exact Kd.V_nil _ _ _ _ _ | exact Kd.Q_nil _ _ _ _ _ | exact Kd.S_nil _ _ _ _ _, sU_⟩
   replace c13 := Bool.eq_false_iff.mpr c13
   subst c13
   rw [if_neg (show ¬ (false = true) by decide)] at H
   have HC14 := ak H
   clear H
   go_upto_region 3 with (fail)
   go_cut [32] (fun v32 wc => ∃ (kq : Nat) (x32_13 : Bool), v32 = .bool x32_13 ∧ Aside0 (code_Fill.j1 kq l1 l2 a3 x32_13 a0_0 a0_1 a0_2 = some (r1, r2)) ∧ Aside0 (kq ≤ kj4) ∧ Aside0 (wc.heap[gb320]? = some (.cells #[.int .i64 a0_0, .int .i64 a0_1, .int .u64 a0_2] 24 (0, 0))) ∧ Aside0 (Below w.heap.size w wc))
   case first =>
    have H := HC14.out
    clear HC14
    by_cases c15 : a3 < 0
    ·rw [if_pos c15] at H
     have c15b0 := decide_eq_true c15
     clear c15
     (first | rw [c15b0] | (simp only [i64_w, i32_w]; rw [c15b0]) | rw [c15b1] | skip)
     have H' := ak H
     clear H
     go_wp2
     go_meet
     case rel => exact ⟨_, (true), gb_, H', ⟨by have := HJ4.out; first | omega | exact Nat.le_refl _⟩, ⟨by (with_reducible repeat (first | refine blk_drewN ?_ _ | refine blk_drew ?_ | refine blk_alloc ?_ _)); exact BK320.out⟩, ⟨sU_⟩⟩
    rw [if_neg c15] at H
    have c15b0 := decide_eq_false c15
    clear c15
    (first | rw [c15b0] | (simp only [i64_w, i32_w]; rw [c15b0]) | rw [c15b1] | skip)
    have H' := ak H
    clear H
    go_wp2
    go_meet
    case rel => exact ⟨_, (decide (a3 > (l1.length : Int))), gb_, H', ⟨by have := HJ4.out; first | omega | exact Nat.le_refl _⟩, ⟨by (with_reducible repeat (first | refine blk_drewN ?_ _ | refine blk_drew ?_ | refine blk_alloc ?_ _)); exact BK320.out⟩, ⟨sU_⟩⟩
   case rest =>
    clear HC14
    (try clear c1); (try clear c2); (try clear p2); (try clear c6); (try clear c8); (try clear c13); (try clear c15); (try clear c15b0); (try clear c15b1); (try clear hcz11_0); (try clear hcz11_1); (try clear hcz11_2); (try clear hcz9_0); (try clear hcz9_1); (try clear hcz9_2); (try clear hfz11_0); (try clear hfz11_1); (try clear hfz11_2); (try clear hfz9_0); (try clear hfz9_1); (try clear hfz9_2)
    obtain ⟨kq, x32_13, rfl, HA, HJ13, BK320, HB⟩ := hcut
    cases kq with
    | zero => exact absurd HA.out (by simp [code_Fill.j1])
    | succ kj13 =>
     have H := HA.out
     clear HA
     simp only [code_Fill.j1] at H
     by_cases c16 : x32_13 = true
     ·subst c16
      rw [if_pos rfl] at H
      simp only [Option.some.injEq, Prod.mk.injEq] at H
      obtain ⟨rfl, rfl⟩ := H
      go_wp2
      go_ret2
      exact ⟨_, eW_, by first | exact Kd.R_nil _ _ _ _ _ | exact Kd.N_nil _ _ _ _ _ | exact Kd.V_nil _ _ _ _ _ | exact Kd.Q_nil _ _ _ _ _ | exact Kd.S_nil _ _ _ _ _, sU_⟩
     replace c16 := Bool.eq_false_iff.mpr c16
     subst c16
     rw [if_neg (show ¬ (false = true) by decide)] at H
     by_cases c17 : a3 > 1024
     ·rw [if_pos c17] at H
      have c17b0 : decide (1024 < a3) = true := decide_eq_true c17
      clear c17
      simp only [Option.some.injEq, Prod.mk.injEq] at H
      obtain ⟨rfl, rfl⟩ := H
      go_wp2
      go_ret2
      exact ⟨_, eW_, by first | exact Kd.R_nil _ _ _ _ _ | exact Kd.N_nil _ _ _ _ _ | exact Kd.V_nil _ _ _ _ _ | exact Kd.Q_nil _ _ _ _ _ | exact Kd.S_nil _ _ _ _ _, sU_⟩
     rw [if_neg c17] at H
     have c17b0 : decide (1024 < a3) = false := decide_eq_false c17
     clear c17
     revert H
     refine bd_ fun t322 A18 H => ?_
     have H' := ak H
     clear H
     have hcz19_0 := bc0_ BK320.out
     have hcz19_1 := bc1_ BK320.out
     have hcz19_2 := bc2_ BK320.out
     have hfz19_0 := blk_frozen BK320.out 0
     have hfz19_1 := blk_frozen BK320.out 1
     have hfz19_2 := blk_frozen BK320.out 2
     go_wp2_with (first | ((with_reducible refine gate_callee (f := 21) rfl ?_); refine gl_ (some 45) Tryd.func21 #[.agg #[.int .i64 a0_0, .int .i64 a0_1, .int .u64 a0_2]] ?_; (with_reducible refine (code_Points.calls kj13 a0_0 a0_1 a0_2 t322 _ ?side1 A18.out).mono ?_); (case side1 => repeat (first | with_reducible exact HG.out | with_reducible exact (Fld.below HG.out HB.out) | exact (Fld.below HG.out sU_) | (with_reducible refine Fld.alloc ?_ _) | (with_reducible refine Fld.drewN ?_ _) | (with_reducible refine Fld.drew ?_))); rintro e w20 ⟨v323, rfl, ho0, hb⟩; refine ⟨_, rfl, ?_⟩; refine nx3_ (R_lower ho0 (below_size sU_)) (blk_below (kU_ BK320.out) hb) (below_step sU_ hb) ?_; clear BK320 HB; intro HO324 BK320 HB; clear hb ho0))
     go_loopg [11, 12, 48] kj13 (fun kq v11 v12 v48 w' => ∃ (x11_3 : List Int) (x12_3 : List Int) (x48_3 : Int), v48 = .int .i64 x48_3 ∧ Aside0 (code_Fill.l0 kq l1 l2 a3 t322 x11_3 x12_3 l2 (l2.length : Int) x48_3 a0_0 a0_1 a0_2 = some (r1, r2)) ∧ Aside0 (kq ≤ kj13) ∧ Aside0 (Kd.R (Kd.int .u64) 22 w' w.heap.size (fun k_ => some k_ ≠ (v11 : Value).ownBlock ∧ some k_ ≠ (v12 : Value).ownBlock) v323 t322) ∧ Aside0 (Kd.R (Kd.int .u64) 22 w' w.heap.size (fun k_ => some k_ ≠ (v323 : Value).ownBlock ∧ some k_ ≠ (v12 : Value).ownBlock) v11 x11_3) ∧ Aside0 (Kd.R (Kd.int .u64) 22 w' w.heap.size (fun k_ => some k_ ≠ (v323 : Value).ownBlock ∧ some k_ ≠ (v11 : Value).ownBlock) v12 x12_3) ∧ Aside0 (w'.heap[gb320]? = some (.cells #[.int .i64 a0_0, .int .i64 a0_1, .int .u64 a0_2] 24 (0, 0))) ∧ Aside0 (Below w.heap.size w w'))
     case atStart => exact ⟨(([] : List Int)), (([] : List Int)), (0), gb_, H', ⟨Nat.le_refl _⟩, ⟨R_mono (rU_ HO324.out) (fun _ hk => ⟨(by simp [Value.ownBlock]), (by simp [Value.ownBlock])⟩)⟩, ⟨by first | exact Kd.R_nil _ _ _ _ _ | exact Kd.N_nil _ _ _ _ _ | exact Kd.V_nil _ _ _ _ _ | exact Kd.Q_nil _ _ _ _ _ | exact Kd.S_nil _ _ _ _ _⟩, ⟨by first | exact Kd.R_nil _ _ _ _ _ | exact Kd.N_nil _ _ _ _ _ | exact Kd.V_nil _ _ _ _ _ | exact Kd.Q_nil _ _ _ _ _ | exact Kd.S_nil _ _ _ _ _⟩, ⟨by (with_reducible repeat (first | refine blk_drewN ?_ _ | refine blk_drew ?_ | refine blk_alloc ?_ _)); exact BK320.out⟩, ⟨sU_⟩⟩
     case round =>
      clear H'
      (try clear c1); (try clear c2); (try clear p2); (try clear c6); (try clear c8); (try clear c13); (try clear c15); (try clear c15b0); (try clear c15b1); (try clear c16); (try clear c17); (try clear c17b0); (try clear hcz11_0); (try clear hcz11_1); (try clear hcz11_2); (try clear hcz19_0); (try clear hcz19_1); (try clear hcz19_2); (try clear hcz9_0); (try clear hcz9_1); (try clear hcz9_2); (try clear hfz11_0); (try clear hfz11_1); (try clear hfz11_2); (try clear hfz19_0); (try clear hfz19_1); (try clear hfz19_2); (try clear hfz9_0); (try clear hfz9_1); (try clear hfz9_2)
      obtain ⟨x11_3, x12_3, x48_3, rfl, HA, HK3, HO_10, HO_11, HO_12, BK320, HB⟩ := hrel
      cases gk with
      | zero => exact absurd HA.out (by simp [code_Fill.l0])
      | succ k3 =>
       have H := HA.out
       clear HA
       simp only [code_Fill.l0] at H
       by_cases c21 : x48_3 < (l2.length : Int)
       ·rw [if_pos c21] at H
        have c21b0 := decide_eq_true c21
        clear c21
        obtain ⟨c22, H⟩ : (0 ≤ x48_3) ∧ _ := it_ H
        have c22b0 := decide_eq_true c22
        clear c22
        obtain ⟨c23, H⟩ : (x48_3 < (l2.length : Int)) ∧ _ := it_ H
        have c23b0 := decide_eq_true c23
        clear c23
        obtain ⟨bq24, hbq24⟩ : ∃ b_ : Bool, b_ = (rdOf false l2 x48_3) := ⟨_, rfl⟩
        replace H : (if bq24 = true then (if (x11_3.length : Int) < a3 then (if x48_3 < (t322.length : Int) then ((some (([rd t322 x48_3] : List Int) : List Int)).bind fun y327 => (if x11_3.length + y327.length < 17592186044416 then (if x48_3 < (l1.length : Int) then ((some (([rd l1 x48_3] : List Int) : List Int)).bind fun y334 => (if x12_3.length + y334.length < 17592186044416 then (code_Fill.l0 k3 l1 l2 a3 t322 (x11_3 ++ y327) (x12_3 ++ y334) l2 (l2.length : Int) (wrap64 (x48_3 + 1)) a0_0 a0_1 a0_2) else (none))) else (none)) else (none))) else (none)) else (code_Fill.l0 k3 l1 l2 a3 t322 x11_3 x12_3 l2 (l2.length : Int) (wrap64 (x48_3 + 1)) a0_0 a0_1 a0_2)) else (code_Fill.l0 k3 l1 l2 a3 t322 x11_3 x12_3 l2 (l2.length : Int) (wrap64 (x48_3 + 1)) a0_0 a0_1 a0_2)) = some (r1, r2) := by rw [← hbq24] at H; exact H
        have Nbq24 := ak hbq24
        clear hbq24
        by_cases c25 : bq24 = true
        ·subst c25
         rw [if_pos rfl] at H
         by_cases c26 : (x11_3.length : Int) < a3
         ·rw [if_pos c26] at H
          have c26b0 := decide_eq_true c26
          clear c26
          obtain ⟨c27, H⟩ : (x48_3 < (t322.length : Int)) ∧ _ := it_ H
          have c27b0 := decide_eq_true c27
          clear c27
          obtain ⟨y327, hy327⟩ : ∃ y_ : List Int, y_ = (([rd t322 x48_3] : List Int)) := ⟨_, rfl⟩
          replace H : (if x11_3.length + y327.length < 17592186044416 then (if x48_3 < (l1.length : Int) then ((some (([rd l1 x48_3] : List Int) : List Int)).bind fun y334 => (if x12_3.length + y334.length < 17592186044416 then (code_Fill.l0 k3 l1 l2 a3 t322 (x11_3 ++ y327) (x12_3 ++ y334) l2 (l2.length : Int) (wrap64 (x48_3 + 1)) a0_0 a0_1 a0_2) else (none))) else (none)) else (none)) = some (r1, r2) := by first | (rw [hy327]; with_reducible exact H) | (have H2_ := (Option.bind_some _ _).symm.trans H; rw [hy327]; with_reducible exact H2_) | (have H2_ := (Option.bind_some _ _).symm.trans H; with_reducible exact H2_) | with_reducible exact H | (rw [hy327]; exact H) | exact H
          have Ny327 := ak hy327
          clear hy327
          obtain ⟨c28, H⟩ : (x11_3.length + y327.length < 17592186044416) ∧ _ := it_ H
          have LMc28 := ak c28
          clear c28
          obtain ⟨y330, hy330⟩ : ∃ y_ : List Int, y_ = (x11_3 ++ y327) := ⟨_, rfl⟩
          first | rw [Option.bind_some, ← hy330] at H | rw [← hy330] at H
          have Ny330 := ak hy330
          clear hy330
          obtain ⟨c29, H⟩ : (x48_3 < (l1.length : Int)) ∧ _ := it_ H
          have c29b0 := decide_eq_true c29
          clear c29
          obtain ⟨y334, hy334⟩ : ∃ y_ : List Int, y_ = (([rd l1 x48_3] : List Int)) := ⟨_, rfl⟩
          replace H : (if x12_3.length + y334.length < 17592186044416 then (code_Fill.l0 k3 l1 l2 a3 t322 y330 (x12_3 ++ y334) l2 (l2.length : Int) (wrap64 (x48_3 + 1)) a0_0 a0_1 a0_2) else (none)) = some (r1, r2) := by first | (rw [hy334]; with_reducible exact H) | (have H2_ := (Option.bind_some _ _).symm.trans H; rw [hy334]; with_reducible exact H2_) | (have H2_ := (Option.bind_some _ _).symm.trans H; with_reducible exact H2_) | with_reducible exact H | (rw [hy334]; exact H) | exact H
          have Ny334 := ak hy334
          clear hy334
          obtain ⟨c30, H⟩ : (x12_3.length + y334.length < 17592186044416) ∧ _ := it_ H
          have LMc30 := ak c30
          clear c30
          obtain ⟨y337, hy337⟩ : ∃ y_ : List Int, y_ = (x12_3 ++ y334) := ⟨_, rfl⟩
          first | rw [Option.bind_some, ← hy337] at H | rw [← hy337] at H
          have Ny337 := ak hy337
          clear hy337
          have H' := ak H
          clear H
          have p325 : 0 ≤ (x48_3 : Int) := od_
          have q325 : x48_3 < (l2.length : Int) := od_
          obtain ⟨ad325, e325, hx325_0⟩ := Kd.at_bool HR2.out x48_3 p325 q325
          (try rw [← Nbq24.out] at hx325_0)
          cases e325
          replace hx325_0 := (HB.out.cell (World.block_lt_of_cell? w _ hx325_0)).trans hx325_0
          replace p325 := eq_true p325
          replace q325 := eq_true q325
          obtain ⟨Ao31, co31, eo31⟩ := R_slice HO_11.out
          subst eo31
          obtain ⟨Ao32, co32, eo32⟩ := R_slice HO_12.out
          subst eo32
          try go_wp2
          refine nx5_ (R_drew HO_10.out) (R_drew HO_11.out) (R_drew HO_12.out) (blk_drew BK320.out) (below_drew1 HB.out) ?_
          clear HO_10 HO_11 HO_12 BK320 HB
          intro HO_10 HO_11 HO_12 BK320 HB
          obtain ⟨Ao34, co34, eo34⟩ := R_slice HO_10.out
          (first | subst eo34 | (injection eo34 with f1_ f2_ f3_; have f4_ := f1_.symm; have f5_ := f3_.symm; clear f1_ f2_ f3_; subst f4_; subst f5_))
          have p326 : 0 ≤ (x48_3 : Int) := od_
          have q326 : x48_3 < (t322.length : Int) := od_
          obtain ⟨ad326, e326, hx326_0⟩ := Kd.at_int (R_reads' HO_10.out).2.2 x48_3 p326 q326
          cases e326
          replace p326 := eq_true p326
          replace q326 := eq_true q326
          have p333 : 0 ≤ (x48_3 : Int) := od_
          have q333 : x48_3 < (l1.length : Int) := od_
          obtain ⟨ad333, e333, hx333_0⟩ := Kd.at_int HR1.out x48_3 p333 q333
          have hw333_0 := hx333_0
          cases e333
          replace hx333_0 := (HB.out.cell (World.block_lt_of_cell? w _ hx333_0)).trans hx333_0
          replace p333 := eq_true p333
          replace q333 := eq_true q333
          refine start_ (n := 16) (S := fun w' => w'.cell? (ad326.add (x48_3).toNat) = some (.int .u64 (rd t322 x48_3)) ∧ w'.cell? (ad333.add (x48_3).toNat) = some (.int .u64 (rd l1 x48_3))) (ds := []) (bv 16 0) (by kernel_rfl) rfl rfl ⟨hx326_0, ((HB.out.cell (World.block_lt_of_cell? w _ hw333_0)).trans hw333_0)⟩ (fun hHeld => ?_); refine with_tabW code_Fill.tab13 code_Fill.bits13 (fun HT_ HW_ => ?_)
          generalize wr.drew = w33 at HO_10 HO_11 HO_12 BK320 HB hx326_0 hx333_0 hHeld ⊢
          refine pq_ 0 60 16 1 HT_.out ?_
          refine pq_ 1 61 16 3 HT_.out ?_
          refine pq_ 2 62 16 7 HT_.out ?_
          refine pq_ 3 63 16 15 HT_.out ?_
          refine pq_ 7 67 16 143 HT_.out ?_
          refine pq_ 8 68 16 399 HT_.out ?_
          refine pq_ 9 69 16 911 HT_.out ?_
          refine pq_ 10 70 16 1935 HT_.out ?_
          refine tq_ 4 64 16 1951 HT_.out HW_.out hHeld ?_
          refine tq_ 11 71 16 3999 HT_.out HW_.out hHeld ?_
          refine join_ (σ := Value × Value × Value) 3 #[true, true, true, true, true, true, true, true, true, true, true, true, true, false, false, false] (fun s_ => [(65, s_.1), (66, s_.2.1), (72, s_.2.2)]) (fun s_ w' => (w'.cell? (ad326.add (x48_3).toNat) = some (.int .u64 (rd t322 x48_3)) ∧ w'.cell? (ad333.add (x48_3).toNat) = some (.int .u64 (rd l1 x48_3))) ∧ (Kd.R (Kd.int .u64) 22 w' w.heap.size (fun k_ => some k_ ≠ (s_.2.1 : Value).ownBlock ∧ some k_ ≠ (s_.2.2 : Value).ownBlock ∧ some k_ ≠ (.slice (some ad326) t322.length co34 : Value).ownBlock ∧ some k_ ≠ (.slice Ao32 x12_3.length co32 : Value).ownBlock) s_.1 y327) ∧ (Kd.R (Kd.int .u64) 22 w' w.heap.size (fun k_ => some k_ ≠ (s_.1 : Value).ownBlock ∧ some k_ ≠ (s_.2.2 : Value).ownBlock ∧ some k_ ≠ (.slice (some ad326) t322.length co34 : Value).ownBlock ∧ some k_ ≠ (.slice Ao32 x12_3.length co32 : Value).ownBlock) s_.2.1 y330) ∧ (Kd.R (Kd.int .u64) 22 w' w.heap.size (fun k_ => some k_ ≠ (s_.1 : Value).ownBlock ∧ some k_ ≠ (s_.2.1 : Value).ownBlock ∧ some k_ ≠ (.slice (some ad326) t322.length co34 : Value).ownBlock ∧ some k_ ≠ (.slice Ao32 x12_3.length co32 : Value).ownBlock) s_.2.2 y334) ∧ (Kd.R (Kd.int .u64) 22 w' w.heap.size (fun k_ => some k_ ≠ (s_.1 : Value).ownBlock ∧ some k_ ≠ (s_.2.1 : Value).ownBlock ∧ some k_ ≠ (s_.2.2 : Value).ownBlock ∧ some k_ ≠ (.slice Ao32 x12_3.length co32 : Value).ownBlock) (.slice (some ad326) t322.length co34) t322) ∧ (Kd.R (Kd.int .u64) 22 w' w.heap.size (fun k_ => some k_ ≠ (s_.1 : Value).ownBlock ∧ some k_ ≠ (s_.2.1 : Value).ownBlock ∧ some k_ ≠ (s_.2.2 : Value).ownBlock ∧ some k_ ≠ (.slice (some ad326) t322.length co34 : Value).ownBlock) (.slice Ao32 x12_3.length co32) x12_3) ∧ (w'.heap[gb320]? = some (.cells #[.int .i64 a0_0, .int .i64 a0_1, .int .u64 a0_2] 24 (0, 0))) ∧ (Below w.heap.size w w')) ?_ ?_
          rotate_left
          ·intro hCont
           refine two_ (i := 5) (j := 12) (Ni := some 65) (Nj := some 72) (bv 16 4031) (bv 16 8095) rfl rfl rfl rfl (two_of HT_.out (by kernel_rfl)) (by decide) (by decide) (fun K hK => ?_) (fun K hK => ?_)
           ·skip
            refine Kd.R_lit_step (Kd.int .u64) _ 22 ?hg (N := 65) ?hd (xs := ([rd t322 x48_3] : List Int)) (inner := [.int .u64 (rd t322 x48_3)]) (ok := fun _ => True) (okp := fun _ => True) ?hr ?hp (fun _ hk => hk) trivial (Below.refl _ _) (Nat.le_refl _) (by simp) ?_; (case hd => rfl); (case hg => rfl); (case hr => first | (go_simp; done) | (go_simp; rfl)); (case hp => exact (Reps.one (show Kd.M (Kd.int .u64) _ _ _ (rd t322 x48_3) [.int .u64 (rd t322 x48_3)] from rfl) (Reps.none _ _)))
            intro v328 w35 ho36 hb hg_ hnew_
            have HS0_ := (hb.cell (World.block_lt_of_cell? _ _ (hHeld.1))).trans (hHeld.1)
            clear hg_ hnew_
            (first | rw [← Ny327.out] at ho36 | (simp only [Int.reduceToNat] at ho36; rw [← Ny327.out] at ho36))
            refine nx6_ (R_elder' (rU_ HO_10.out) (R_base ho36) hb) (R_elder' (rU_ HO_11.out) (R_base ho36) hb) (R_elder' (rU_ HO_12.out) (R_base ho36) hb) (R_lower (R_new' (R_new' (R_new' ho36 (R_lt (rU_ HO_10.out))) (R_lt (rU_ HO_11.out))) (R_lt (rU_ HO_12.out))) (below_size sU_)) (blk_below (kU_ BK320.out) hb) (below_step sU_ hb) ?_
            clear HO_10 HO_11 HO_12 BK320 HB
            intro HO_10 HO_11 HO_12 HO329 BK320 HB
            clear hb ho36
            obtain ⟨Ao38, co38, eo38⟩ := R_slice HO329.out
            (first | subst eo38 | (injection eo38 with f1_ f2_ f3_; have f4_ := f1_.symm; have f5_ := f3_.symm; clear f1_ f2_ f3_; subst f4_; subst f5_))
            refine hK.out _ _ ⟨HS0_, ((HB.out.cell (World.block_lt_of_cell? w _ hw333_0)).trans hw333_0)⟩ (fun hHeld => ?_)
            clear hK K
            refine norm_ (a' := ?_) ?_ ?_
            rotate_left
            ·show Act.put _ (some 65) _ = _
             simp only [Act.put, s1_, s2_, s3_, i64_w, i32_w]
             rfl
            refine two_ (i := 6) (j := 12) (Ni := some 66) (Nj := some 72) (bv 16 4095) (bv 16 8127) rfl rfl rfl rfl (two_of HT_.out (by kernel_rfl)) (by decide) (by decide) (fun K hK => ?_) (fun K hK => ?_)
            ·skip
             refine Kd.R_append_rows_step (Kd.int .u64) (w0 := w) w.heap.size (by rfl) (.tmp 60) (.tmp 65) 33 22 (.int .u64 0) 8 rfl Tryd.underlying33 info22 rfl (by decide) (by omega) (.slice Ao31 x11_3.length co31) x11_3 y327 _ _ _ (fun k_ => some k_ ≠ (.slice (some ad326) t322.length co34 : Value).ownBlock ∧ some k_ ≠ (.slice Ao32 x12_3.length co32 : Value).ownBlock ∧ some k_ ≠ (.slice Ao38 y327.length co38 : Value).ownBlock) (fun _ => False) rfl rfl ?aO ?aR (fun _ _ h => h) (fun _ h => h.elim) ?aF ?aB ?aS ?aL ?_
             (case aR => exact cU_ ((R_reads' HO329.out).2.2))
             (case aB => exact sU_)
             (case aF => exact (fun k_ hk => ⟨fresh' (R_lt (rU_ HO_10.out)) k_ hk, fresh' (R_lt (rU_ HO_12.out)) k_ hk, fresh' (R_lt (rU_ HO329.out)) k_ hk⟩))
             (case aO => exact (R_mono (rU_ HO_11.out) (fun _ hk => ⟨hk.1.1, ⟨hk.1.2, hk.2⟩⟩)))
             (case aS => exact (below_size sU_))
             (case aL => have := LMc28.out; omega)
             intro v331 w37 ho hb hg hat
             have HS0_ := cell_grown hg (hHeld.1) (by have r_ := HO_11.out.1; (first | rw [add_block] | (show some (Addr.add _ _).block ≠ _; rw [add_block]) | skip); intro e_; have k_ := r_ _ e_.symm; first | exact k_ rfl | exact k_.1 rfl | exact k_.2 rfl | exact k_.1.1 rfl | exact k_.1.2 rfl | exact k_.2.1 rfl | exact k_.2.2 rfl | exact k_.1.1.1 rfl | exact k_.1.1.2 rfl | exact k_.1.2.1 rfl | exact k_.1.2.2 rfl | exact k_.2.1.1 rfl | exact k_.2.1.2 rfl | exact k_.2.2.1 rfl | exact k_.2.2.2 rfl | exact k_.2.2.2.1 rfl | exact k_.2.2.2.2 rfl | exact k_.1.1.1.1 rfl | exact k_.1.1.1.2 rfl)
             rw [← Ny330.out] at ho
             refine nx6_ (Kd.R_after (ok := (fun k_ => some k_ ≠ (.slice Ao32 x12_3.length co32 : Value).ownBlock ∧ some k_ ≠ (.slice Ao38 y327.length co38 : Value).ownBlock)) (R_mono (rU_ HO_10.out) (fun _ hk => ⟨⟨hk.1.2, hk.2⟩, hk.1.1⟩)) hg hat) (Kd.R_after (ok := (fun k_ => some k_ ≠ (.slice (some ad326) t322.length co34 : Value).ownBlock ∧ some k_ ≠ (.slice Ao38 y327.length co38 : Value).ownBlock)) (R_mono (rU_ HO_12.out) (fun _ hk => ⟨⟨hk.1.1, hk.2⟩, hk.1.2⟩)) hg hat) (blk_grown (g := gb320) (o := .cells #[.int .i64 a0_0, .int .i64 a0_1, .int .u64 a0_2] 24 (0, 0)) (kU_ BK320.out) hg (Kd.R_ne HO_11.out BK320.out (by decide))) (Kd.R_after (ok := (fun k_ => some k_ ≠ (.slice (some ad326) t322.length co34 : Value).ownBlock ∧ some k_ ≠ (.slice Ao32 x12_3.length co32 : Value).ownBlock)) (R_mono (rU_ HO329.out) (fun _ hk => ⟨⟨hk.1.1.2, hk.2⟩, hk.1.2⟩)) hg hat) (hb) (ho) ?_
             clear HO_10 HO_12 BK320 HO329 HB HO_11
             intro HO_10 HO_12 BK320 HO329 HB HO332
             clear ho hb hg hat
             refine hK.out _ _ ⟨HS0_, ((HB.out.cell (World.block_lt_of_cell? w _ hw333_0)).trans hw333_0)⟩ (fun hHeld => ?_)
             clear hK K
             refine norm_ (a' := ?_) ?_ ?_
             rotate_left
             ·show Act.put _ (some 66) _ = _
              simp only [Act.put, s1_, s2_, s3_, i64_w, i32_w]
              rfl
             refine oq_ 12 72 16 8191 HT_.out fun K hK => ?_
             refine Kd.R_lit_step (Kd.int .u64) _ 22 ?hg (N := 72) ?hd (xs := ([rd l1 x48_3] : List Int)) (inner := [.int .u64 (rd l1 x48_3)]) (ok := fun _ => True) (okp := fun _ => True) ?hr ?hp (fun _ hk => hk) trivial (Below.refl _ _) (Nat.le_refl _) (by simp) ?_; (case hd => rfl); (case hg => rfl); (case hr => first | (go_simp; done) | (go_simp; rfl)); (case hp => exact (Reps.one (show Kd.M (Kd.int .u64) _ _ _ (rd l1 x48_3) [.int .u64 (rd l1 x48_3)] from rfl) (Reps.none _ _)))
             intro v335 w39 ho40 hb hg_ hnew_
             have HS0_ := (hb.cell (World.block_lt_of_cell? _ _ (hHeld.1))).trans (hHeld.1)
             clear hg_ hnew_
             (first | rw [← Ny334.out] at ho40 | (simp only [Int.reduceToNat] at ho40; rw [← Ny334.out] at ho40))
             refine nx7_ (R_elder' (rU_ HO_10.out) (R_base ho40) hb) (R_elder' (rU_ HO_12.out) (R_base ho40) hb) (R_elder' (rU_ HO329.out) (R_base ho40) hb) (R_elder' (rU_ HO332.out) (R_base ho40) hb) (R_lower (R_new' (R_new' (R_new' (R_new' ho40 (R_lt (rU_ HO_10.out))) (R_lt (rU_ HO_12.out))) (R_lt (rU_ HO329.out))) (R_lt (rU_ HO332.out))) (below_size sU_)) (blk_below (kU_ BK320.out) hb) (below_step sU_ hb) ?_
             clear HO_10 HO_12 HO329 HO332 BK320 HB
             intro HO_10 HO_12 HO329 HO332 HO336 BK320 HB
             clear hb ho40
             refine hK.out _ _ ⟨HS0_, ((HB.out.cell (World.block_lt_of_cell? w _ hw333_0)).trans hw333_0)⟩ (fun hHeld => ?_)
             clear hK K
             refine norm_ (a' := ?_) ?_ ?_
             rotate_left
             ·show Act.put _ (some 72) _ = _
              simp only [Act.put, s1_, s2_, s3_, i64_w, i32_w]
              rfl
             exact norm_ (by simp only [putAll, Act.put, List.setIfInBounds_toArray, List.set_cons_zero, List.set_cons_succ]) (hCont (.slice Ao38 y327.length co38, v331, v335) _ ⟨hHeld, (R_mono (rU_ HO329.out) (fun _ hk => ⟨hk.1.2, ⟨hk.2, ⟨hk.1.1.1, hk.1.1.2⟩⟩⟩)), (R_mono (rU_ HO332.out) (fun _ hk => ⟨hk.1.2.2, ⟨hk.2, ⟨hk.1.1, hk.1.2.1⟩⟩⟩)), (R_mono (rU_ HO336.out) (fun _ hk => ⟨hk.1.2, ⟨hk.2, ⟨hk.1.1.1.2, hk.1.1.2⟩⟩⟩)), (R_mono (rU_ HO_10.out) (fun _ hk => ⟨hk.1.1.2, ⟨hk.1.2, ⟨hk.2, hk.1.1.1⟩⟩⟩)), (R_mono (rU_ HO_12.out) (fun _ hk => ⟨hk.1.1.2, ⟨hk.1.2, ⟨hk.2, hk.1.1.1⟩⟩⟩)), (kU_ BK320.out), sU_⟩)
            skip
            refine Kd.R_lit_step (Kd.int .u64) _ 22 ?hg (N := 72) ?hd (xs := ([rd l1 x48_3] : List Int)) (inner := [.int .u64 (rd l1 x48_3)]) (ok := fun _ => True) (okp := fun _ => True) ?hr ?hp (fun _ hk => hk) trivial (Below.refl _ _) (Nat.le_refl _) (by simp) ?_; (case hd => rfl); (case hg => rfl); (case hr => first | (go_simp; done) | (go_simp; rfl)); (case hp => exact (Reps.one (show Kd.M (Kd.int .u64) _ _ _ (rd l1 x48_3) [.int .u64 (rd l1 x48_3)] from rfl) (Reps.none _ _)))
            intro v335 w37 ho38 hb hg_ hnew_
            have HS0_ := (hb.cell (World.block_lt_of_cell? _ _ (hHeld.1))).trans (hHeld.1)
            clear hg_ hnew_
            (first | rw [← Ny334.out] at ho38 | (simp only [Int.reduceToNat] at ho38; rw [← Ny334.out] at ho38))
            refine nx7_ (R_elder' (rU_ HO_10.out) (R_base ho38) hb) (R_elder' (rU_ HO_11.out) (R_base ho38) hb) (R_elder' (rU_ HO_12.out) (R_base ho38) hb) (R_elder' (rU_ HO329.out) (R_base ho38) hb) (R_lower (R_new' (R_new' (R_new' (R_new' ho38 (R_lt (rU_ HO_10.out))) (R_lt (rU_ HO_11.out))) (R_lt (rU_ HO_12.out))) (R_lt (rU_ HO329.out))) (below_size sU_)) (blk_below (kU_ BK320.out) hb) (below_step sU_ hb) ?_
            clear HO_10 HO_11 HO_12 HO329 BK320 HB
            intro HO_10 HO_11 HO_12 HO329 HO336 BK320 HB
            clear hb ho38
            obtain ⟨Ao40, co40, eo40⟩ := R_slice HO329.out
            (first | subst eo40 | (injection eo40 with f1_ f2_ f3_; have f4_ := f1_.symm; have f5_ := f3_.symm; clear f1_ f2_ f3_; subst f4_; subst f5_))
            refine hK.out _ _ ⟨HS0_, ((HB.out.cell (World.block_lt_of_cell? w _ hw333_0)).trans hw333_0)⟩ (fun hHeld => ?_)
            clear hK K
            refine norm_ (a' := ?_) ?_ ?_
            rotate_left
            ·show Act.put _ (some 72) _ = _
             simp only [Act.put, s1_, s2_, s3_, i64_w, i32_w]
             rfl
            refine oq_ 6 66 16 8191 HT_.out fun K hK => ?_
            refine Kd.R_append_rows_step (Kd.int .u64) (w0 := w) w.heap.size (by rfl) (.tmp 60) (.tmp 65) 33 22 (.int .u64 0) 8 rfl Tryd.underlying33 info22 rfl (by decide) (by omega) (.slice Ao31 x11_3.length co31) x11_3 y327 _ _ _ (fun k_ => some k_ ≠ (.slice (some ad326) t322.length co34 : Value).ownBlock ∧ some k_ ≠ (.slice Ao32 x12_3.length co32 : Value).ownBlock ∧ some k_ ≠ (.slice Ao40 y327.length co40 : Value).ownBlock ∧ some k_ ≠ (v335 : Value).ownBlock) (fun _ => False) rfl rfl ?aO ?aR (fun _ _ h => h) (fun _ h => h.elim) ?aF ?aB ?aS ?aL ?_
            (case aR => exact cU_ ((R_reads' HO329.out).2.2))
            (case aB => exact sU_)
            (case aF => exact (fun k_ hk => ⟨fresh' (R_lt (rU_ HO_10.out)) k_ hk, fresh' (R_lt (rU_ HO_12.out)) k_ hk, fresh' (R_lt (rU_ HO329.out)) k_ hk, fresh' (R_lt (rU_ HO336.out)) k_ hk⟩))
            (case aO => exact (R_mono (rU_ HO_11.out) (fun _ hk => ⟨hk.1.1.1, ⟨hk.1.1.2, ⟨hk.1.2, hk.2⟩⟩⟩)))
            (case aS => exact (below_size sU_))
            (case aL => have := LMc28.out; omega)
            intro v331 w39 ho hb hg hat
            have HS0_ := cell_grown hg (hHeld.1) (by have r_ := HO_11.out.1; (first | rw [add_block] | (show some (Addr.add _ _).block ≠ _; rw [add_block]) | skip); intro e_; have k_ := r_ _ e_.symm; first | exact k_ rfl | exact k_.1 rfl | exact k_.2 rfl | exact k_.1.1 rfl | exact k_.1.2 rfl | exact k_.2.1 rfl | exact k_.2.2 rfl | exact k_.1.1.1 rfl | exact k_.1.1.2 rfl | exact k_.1.2.1 rfl | exact k_.1.2.2 rfl | exact k_.2.1.1 rfl | exact k_.2.1.2 rfl | exact k_.2.2.1 rfl | exact k_.2.2.2 rfl | exact k_.2.2.2.1 rfl | exact k_.2.2.2.2 rfl | exact k_.1.1.1.1 rfl | exact k_.1.1.1.2 rfl)
            rw [← Ny330.out] at ho
            refine nx7_ (Kd.R_after (ok := (fun k_ => some k_ ≠ (.slice Ao32 x12_3.length co32 : Value).ownBlock ∧ some k_ ≠ (.slice Ao40 y327.length co40 : Value).ownBlock ∧ some k_ ≠ (v335 : Value).ownBlock)) (R_mono (rU_ HO_10.out) (fun _ hk => ⟨⟨hk.1.1.2, ⟨hk.1.2, hk.2⟩⟩, hk.1.1.1⟩)) hg hat) (Kd.R_after (ok := (fun k_ => some k_ ≠ (.slice (some ad326) t322.length co34 : Value).ownBlock ∧ some k_ ≠ (.slice Ao40 y327.length co40 : Value).ownBlock ∧ some k_ ≠ (v335 : Value).ownBlock)) (R_mono (rU_ HO_12.out) (fun _ hk => ⟨⟨hk.1.1.1, ⟨hk.1.2, hk.2⟩⟩, hk.1.1.2⟩)) hg hat) (blk_grown (g := gb320) (o := .cells #[.int .i64 a0_0, .int .i64 a0_1, .int .u64 a0_2] 24 (0, 0)) (kU_ BK320.out) hg (Kd.R_ne HO_11.out BK320.out (by decide))) (Kd.R_after (ok := (fun k_ => some k_ ≠ (.slice (some ad326) t322.length co34 : Value).ownBlock ∧ some k_ ≠ (.slice Ao32 x12_3.length co32 : Value).ownBlock ∧ some k_ ≠ (v335 : Value).ownBlock)) (R_mono (rU_ HO329.out) (fun _ hk => ⟨⟨hk.1.1.1.2, ⟨hk.1.2, hk.2⟩⟩, hk.1.1.2⟩)) hg hat) (Kd.R_after (ok := (fun k_ => some k_ ≠ (.slice (some ad326) t322.length co34 : Value).ownBlock ∧ some k_ ≠ (.slice Ao32 x12_3.length co32 : Value).ownBlock ∧ some k_ ≠ (.slice Ao40 y327.length co40 : Value).ownBlock)) (R_mono (rU_ HO336.out) (fun _ hk => ⟨⟨hk.1.1.1.2, ⟨hk.1.2, hk.2⟩⟩, hk.1.1.2⟩)) hg hat) (hb) (ho) ?_
            clear HO_10 HO_12 BK320 HO329 HO336 HB HO_11
            intro HO_10 HO_12 BK320 HO329 HO336 HB HO332
            clear ho hb hg hat
            refine hK.out _ _ ⟨HS0_, ((HB.out.cell (World.block_lt_of_cell? w _ hw333_0)).trans hw333_0)⟩ (fun hHeld => ?_)
            clear hK K
            refine norm_ (a' := ?_) ?_ ?_
            rotate_left
            ·show Act.put _ (some 66) _ = _
             simp only [Act.put, s1_, s2_, s3_, i64_w, i32_w]
             rfl
            exact norm_ (by simp only [putAll, Act.put, List.setIfInBounds_toArray, List.set_cons_zero, List.set_cons_succ]) (hCont (.slice Ao40 y327.length co40, v331, v335) _ ⟨hHeld, (R_mono (rU_ HO329.out) (fun _ hk => ⟨hk.2, ⟨hk.1.2.2, ⟨hk.1.1, hk.1.2.1⟩⟩⟩)), (R_mono (rU_ HO332.out) (fun _ hk => ⟨hk.2.2.1, ⟨hk.2.2.2, ⟨hk.1, hk.2.1⟩⟩⟩)), (R_mono (rU_ HO336.out) (fun _ hk => ⟨hk.1.2.2, ⟨hk.2, ⟨hk.1.1, hk.1.2.1⟩⟩⟩)), (R_mono (rU_ HO_10.out) (fun _ hk => ⟨hk.1.2.1, ⟨hk.2, ⟨hk.1.2.2, hk.1.1⟩⟩⟩)), (R_mono (rU_ HO_12.out) (fun _ hk => ⟨hk.1.2.1, ⟨hk.2, ⟨hk.1.2.2, hk.1.1⟩⟩⟩)), (kU_ BK320.out), sU_⟩)
           skip
           refine Kd.R_lit_step (Kd.int .u64) _ 22 ?hg (N := 72) ?hd (xs := ([rd l1 x48_3] : List Int)) (inner := [.int .u64 (rd l1 x48_3)]) (ok := fun _ => True) (okp := fun _ => True) ?hr ?hp (fun _ hk => hk) trivial (Below.refl _ _) (Nat.le_refl _) (by simp) ?_; (case hd => rfl); (case hg => rfl); (case hr => first | (go_simp; done) | (go_simp; rfl)); (case hp => exact (Reps.one (show Kd.M (Kd.int .u64) _ _ _ (rd l1 x48_3) [.int .u64 (rd l1 x48_3)] from rfl) (Reps.none _ _)))
           intro v335 w35 ho36 hb hg_ hnew_
           have HS0_ := (hb.cell (World.block_lt_of_cell? _ _ (hHeld.1))).trans (hHeld.1)
           clear hg_ hnew_
           (first | rw [← Ny334.out] at ho36 | (simp only [Int.reduceToNat] at ho36; rw [← Ny334.out] at ho36))
           refine nx6_ (R_elder' (rU_ HO_10.out) (R_base ho36) hb) (R_elder' (rU_ HO_11.out) (R_base ho36) hb) (R_elder' (rU_ HO_12.out) (R_base ho36) hb) (R_lower (R_new' (R_new' (R_new' ho36 (R_lt (rU_ HO_10.out))) (R_lt (rU_ HO_11.out))) (R_lt (rU_ HO_12.out))) (below_size sU_)) (blk_below (kU_ BK320.out) hb) (below_step sU_ hb) ?_
           clear HO_10 HO_11 HO_12 BK320 HB
           intro HO_10 HO_11 HO_12 HO336 BK320 HB
           clear hb ho36
           refine hK.out _ _ ⟨HS0_, ((HB.out.cell (World.block_lt_of_cell? w _ hw333_0)).trans hw333_0)⟩ (fun hHeld => ?_)
           clear hK K
           refine norm_ (a' := ?_) ?_ ?_
           rotate_left
           ·show Act.put _ (some 72) _ = _
            simp only [Act.put, s1_, s2_, s3_, i64_w, i32_w]
            rfl
           refine oq_ 5 65 16 8127 HT_.out fun K hK => ?_
           refine Kd.R_lit_step (Kd.int .u64) _ 22 ?hg (N := 65) ?hd (xs := ([rd t322 x48_3] : List Int)) (inner := [.int .u64 (rd t322 x48_3)]) (ok := fun _ => True) (okp := fun _ => True) ?hr ?hp (fun _ hk => hk) trivial (Below.refl _ _) (Nat.le_refl _) (by simp) ?_; (case hd => rfl); (case hg => rfl); (case hr => first | (go_simp; done) | (go_simp; rfl)); (case hp => exact (Reps.one (show Kd.M (Kd.int .u64) _ _ _ (rd t322 x48_3) [.int .u64 (rd t322 x48_3)] from rfl) (Reps.none _ _)))
           intro v328 w37 ho38 hb hg_ hnew_
           have HS0_ := (hb.cell (World.block_lt_of_cell? _ _ (hHeld.1))).trans (hHeld.1)
           clear hg_ hnew_
           (first | rw [← Ny327.out] at ho38 | (simp only [Int.reduceToNat] at ho38; rw [← Ny327.out] at ho38))
           refine nx7_ (R_elder' (rU_ HO_10.out) (R_base ho38) hb) (R_elder' (rU_ HO_11.out) (R_base ho38) hb) (R_elder' (rU_ HO_12.out) (R_base ho38) hb) (R_elder' (rU_ HO336.out) (R_base ho38) hb) (R_lower (R_new' (R_new' (R_new' (R_new' ho38 (R_lt (rU_ HO_10.out))) (R_lt (rU_ HO_11.out))) (R_lt (rU_ HO_12.out))) (R_lt (rU_ HO336.out))) (below_size sU_)) (blk_below (kU_ BK320.out) hb) (below_step sU_ hb) ?_
           clear HO_10 HO_11 HO_12 HO336 BK320 HB
           intro HO_10 HO_11 HO_12 HO336 HO329 BK320 HB
           clear hb ho38
           obtain ⟨Ao40, co40, eo40⟩ := R_slice HO329.out
           (first | subst eo40 | (injection eo40 with f1_ f2_ f3_; have f4_ := f1_.symm; have f5_ := f3_.symm; clear f1_ f2_ f3_; subst f4_; subst f5_))
           refine hK.out _ _ ⟨HS0_, ((HB.out.cell (World.block_lt_of_cell? w _ hw333_0)).trans hw333_0)⟩ (fun hHeld => ?_)
           clear hK K
           refine norm_ (a' := ?_) ?_ ?_
           rotate_left
           ·show Act.put _ (some 65) _ = _
            simp only [Act.put, s1_, s2_, s3_, i64_w, i32_w]
            rfl
           refine oq_ 6 66 16 8191 HT_.out fun K hK => ?_
           refine Kd.R_append_rows_step (Kd.int .u64) (w0 := w) w.heap.size (by rfl) (.tmp 60) (.tmp 65) 33 22 (.int .u64 0) 8 rfl Tryd.underlying33 info22 rfl (by decide) (by omega) (.slice Ao31 x11_3.length co31) x11_3 y327 _ _ _ (fun k_ => some k_ ≠ (.slice (some ad326) t322.length co34 : Value).ownBlock ∧ some k_ ≠ (.slice Ao32 x12_3.length co32 : Value).ownBlock ∧ some k_ ≠ (v335 : Value).ownBlock ∧ some k_ ≠ (.slice Ao40 y327.length co40 : Value).ownBlock) (fun _ => False) rfl rfl ?aO ?aR (fun _ _ h => h) (fun _ h => h.elim) ?aF ?aB ?aS ?aL ?_
           (case aR => exact cU_ ((R_reads' HO329.out).2.2))
           (case aB => exact sU_)
           (case aF => exact (fun k_ hk => ⟨fresh' (R_lt (rU_ HO_10.out)) k_ hk, fresh' (R_lt (rU_ HO_12.out)) k_ hk, fresh' (R_lt (rU_ HO336.out)) k_ hk, fresh' (R_lt (rU_ HO329.out)) k_ hk⟩))
           (case aO => exact (R_mono (rU_ HO_11.out) (fun _ hk => ⟨hk.1.1.1, ⟨hk.1.1.2, ⟨hk.1.2, hk.2⟩⟩⟩)))
           (case aS => exact (below_size sU_))
           (case aL => have := LMc28.out; omega)
           intro v331 w39 ho hb hg hat
           have HS0_ := cell_grown hg (hHeld.1) (by have r_ := HO_11.out.1; (first | rw [add_block] | (show some (Addr.add _ _).block ≠ _; rw [add_block]) | skip); intro e_; have k_ := r_ _ e_.symm; first | exact k_ rfl | exact k_.1 rfl | exact k_.2 rfl | exact k_.1.1 rfl | exact k_.1.2 rfl | exact k_.2.1 rfl | exact k_.2.2 rfl | exact k_.1.1.1 rfl | exact k_.1.1.2 rfl | exact k_.1.2.1 rfl | exact k_.1.2.2 rfl | exact k_.2.1.1 rfl | exact k_.2.1.2 rfl | exact k_.2.2.1 rfl | exact k_.2.2.2 rfl | exact k_.2.2.2.1 rfl | exact k_.2.2.2.2 rfl | exact k_.1.1.1.1 rfl | exact k_.1.1.1.2 rfl)
           rw [← Ny330.out] at ho
           refine nx7_ (Kd.R_after (ok := (fun k_ => some k_ ≠ (.slice Ao32 x12_3.length co32 : Value).ownBlock ∧ some k_ ≠ (v335 : Value).ownBlock ∧ some k_ ≠ (.slice Ao40 y327.length co40 : Value).ownBlock)) (R_mono (rU_ HO_10.out) (fun _ hk => ⟨⟨hk.1.1.2, ⟨hk.1.2, hk.2⟩⟩, hk.1.1.1⟩)) hg hat) (Kd.R_after (ok := (fun k_ => some k_ ≠ (.slice (some ad326) t322.length co34 : Value).ownBlock ∧ some k_ ≠ (v335 : Value).ownBlock ∧ some k_ ≠ (.slice Ao40 y327.length co40 : Value).ownBlock)) (R_mono (rU_ HO_12.out) (fun _ hk => ⟨⟨hk.1.1.1, ⟨hk.1.2, hk.2⟩⟩, hk.1.1.2⟩)) hg hat) (blk_grown (g := gb320) (o := .cells #[.int .i64 a0_0, .int .i64 a0_1, .int .u64 a0_2] 24 (0, 0)) (kU_ BK320.out) hg (Kd.R_ne HO_11.out BK320.out (by decide))) (Kd.R_after (ok := (fun k_ => some k_ ≠ (.slice (some ad326) t322.length co34 : Value).ownBlock ∧ some k_ ≠ (.slice Ao32 x12_3.length co32 : Value).ownBlock ∧ some k_ ≠ (.slice Ao40 y327.length co40 : Value).ownBlock)) (R_mono (rU_ HO336.out) (fun _ hk => ⟨⟨hk.1.1.1.2, ⟨hk.1.2, hk.2⟩⟩, hk.1.1.2⟩)) hg hat) (Kd.R_after (ok := (fun k_ => some k_ ≠ (.slice (some ad326) t322.length co34 : Value).ownBlock ∧ some k_ ≠ (.slice Ao32 x12_3.length co32 : Value).ownBlock ∧ some k_ ≠ (v335 : Value).ownBlock)) (R_mono (rU_ HO329.out) (fun _ hk => ⟨⟨hk.1.1.1.2, ⟨hk.1.2, hk.2⟩⟩, hk.1.1.2⟩)) hg hat) (hb) (ho) ?_
           clear HO_10 HO_12 BK320 HO336 HO329 HB HO_11
           intro HO_10 HO_12 BK320 HO336 HO329 HB HO332
           clear ho hb hg hat
           refine hK.out _ _ ⟨HS0_, ((HB.out.cell (World.block_lt_of_cell? w _ hw333_0)).trans hw333_0)⟩ (fun hHeld => ?_)
           clear hK K
           refine norm_ (a' := ?_) ?_ ?_
           rotate_left
           ·show Act.put _ (some 66) _ = _
            simp only [Act.put, s1_, s2_, s3_, i64_w, i32_w]
            rfl
           exact norm_ (by simp only [putAll, Act.put, List.setIfInBounds_toArray, List.set_cons_zero, List.set_cons_succ]) (hCont (.slice Ao40 y327.length co40, v331, v335) _ ⟨hHeld, (R_mono (rU_ HO329.out) (fun _ hk => ⟨hk.2, ⟨hk.1.2.2, ⟨hk.1.1, hk.1.2.1⟩⟩⟩)), (R_mono (rU_ HO332.out) (fun _ hk => ⟨hk.2.2.2, ⟨hk.2.2.1, ⟨hk.1, hk.2.1⟩⟩⟩)), (R_mono (rU_ HO336.out) (fun _ hk => ⟨hk.1.2.2, ⟨hk.2, ⟨hk.1.1, hk.1.2.1⟩⟩⟩)), (R_mono (rU_ HO_10.out) (fun _ hk => ⟨hk.1.2.2, ⟨hk.2, ⟨hk.1.2.1, hk.1.1⟩⟩⟩)), (R_mono (rU_ HO_12.out) (fun _ hk => ⟨hk.1.2.2, ⟨hk.2, ⟨hk.1.2.1, hk.1.1⟩⟩⟩)), (kU_ BK320.out), sU_⟩)
          rintro ⟨v328, v331, v335⟩ w41 ⟨hS_, h0_, h1_, h2_, h3_, h4_, h5_, h6_⟩
          have n0_ : Aside0 (Kd.R (Kd.int .u64) 22 w41 w.heap.size (fun k_ => some k_ ≠ (v331 : Value).ownBlock ∧ some k_ ≠ (v335 : Value).ownBlock ∧ some k_ ≠ (.slice (some ad326) t322.length co34 : Value).ownBlock ∧ some k_ ≠ (.slice Ao32 x12_3.length co32 : Value).ownBlock) v328 y327) := ⟨h0_⟩
          have n1_ : Aside0 (Kd.R (Kd.int .u64) 22 w41 w.heap.size (fun k_ => some k_ ≠ (v328 : Value).ownBlock ∧ some k_ ≠ (v335 : Value).ownBlock ∧ some k_ ≠ (.slice (some ad326) t322.length co34 : Value).ownBlock ∧ some k_ ≠ (.slice Ao32 x12_3.length co32 : Value).ownBlock) v331 y330) := ⟨h1_⟩
          have n2_ : Aside0 (Kd.R (Kd.int .u64) 22 w41 w.heap.size (fun k_ => some k_ ≠ (v328 : Value).ownBlock ∧ some k_ ≠ (v331 : Value).ownBlock ∧ some k_ ≠ (.slice (some ad326) t322.length co34 : Value).ownBlock ∧ some k_ ≠ (.slice Ao32 x12_3.length co32 : Value).ownBlock) v335 y334) := ⟨h2_⟩
          have n3_ : Aside0 (Kd.R (Kd.int .u64) 22 w41 w.heap.size (fun k_ => some k_ ≠ (v328 : Value).ownBlock ∧ some k_ ≠ (v331 : Value).ownBlock ∧ some k_ ≠ (v335 : Value).ownBlock ∧ some k_ ≠ (.slice Ao32 x12_3.length co32 : Value).ownBlock) (.slice (some ad326) t322.length co34) t322) := ⟨h3_⟩
          have n4_ : Aside0 (Kd.R (Kd.int .u64) 22 w41 w.heap.size (fun k_ => some k_ ≠ (v328 : Value).ownBlock ∧ some k_ ≠ (v331 : Value).ownBlock ∧ some k_ ≠ (v335 : Value).ownBlock ∧ some k_ ≠ (.slice (some ad326) t322.length co34 : Value).ownBlock) (.slice Ao32 x12_3.length co32) x12_3) := ⟨h4_⟩
          have n5_ : Aside0 (w41.heap[gb320]? = some (.cells #[.int .i64 a0_0, .int .i64 a0_1, .int .u64 a0_2] 24 (0, 0))) := ⟨h5_⟩
          have n6_ : Aside0 (Below w.heap.size w w41) := ⟨h6_⟩
          clear HO_10
          clear HO_11
          clear HO_12
          clear BK320
          clear HB
          clear h0_ h1_ h2_ h3_ h4_ h5_ h6_
          have HO329 := n0_
          have HO332 := n1_
          have HO336 := n2_
          have HO_10 := n3_
          have HO_12 := n4_
          have BK320 := n5_
          have HB := n6_
          clear n0_ n1_ n2_ n3_ n4_ n5_ n6_
          have hHeld : w41.cell? (ad326.add (x48_3).toNat) = some (.int .u64 (rd t322 x48_3)) ∧ w41.cell? (ad333.add (x48_3).toNat) = some (.int .u64 (rd l1 x48_3)) := hS_
          obtain ⟨Ao43, co43, eo43⟩ := R_slice HO336.out
          (first | subst eo43 | (injection eo43 with f1_ f2_ f3_; have f4_ := f1_.symm; have f5_ := f3_.symm; clear f1_ f2_ f3_; subst f4_; subst f5_))
          refine norm_ (a' := ?_) ?_ ?_
          rotate_left
          ·simp only [putAll, Act.put, List.setIfInBounds_toArray, List.set_cons_zero, List.set_cons_succ]
           rfl
          refine oq_ 13 73 16 16383 HT_.out fun K hK => ?_
          refine Kd.R_append_rows_step (Kd.int .u64) (w0 := w) w.heap.size (by rfl) (.tmp 67) (.tmp 72) 33 22 (.int .u64 0) 8 rfl Tryd.underlying33 info22 rfl (by decide) (by omega) (.slice Ao32 x12_3.length co32) x12_3 y334 _ _ _ (fun k_ => some k_ ≠ (.slice (some ad326) t322.length co34 : Value).ownBlock ∧ some k_ ≠ (v328 : Value).ownBlock ∧ some k_ ≠ (v331 : Value).ownBlock ∧ some k_ ≠ (.slice Ao43 y334.length co43 : Value).ownBlock) (fun _ => False) rfl rfl ?aO ?aR (fun _ _ h => h) (fun _ h => h.elim) ?aF ?aB ?aS ?aL ?_
          (case aR => exact cU_ ((R_reads' HO336.out).2.2))
          (case aB => exact sU_)
          (case aF => exact (fun k_ hk => ⟨fresh' (R_lt (rU_ HO_10.out)) k_ hk, fresh' (R_lt (rU_ HO329.out)) k_ hk, fresh' (R_lt (rU_ HO332.out)) k_ hk, fresh' (R_lt (rU_ HO336.out)) k_ hk⟩))
          (case aO => exact (R_mono (rU_ HO_12.out) (fun _ hk => ⟨hk.2.2.2, ⟨hk.1, ⟨hk.2.1, hk.2.2.1⟩⟩⟩)))
          (case aS => exact (below_size sU_))
          (case aL => have := LMc30.out; omega)
          intro v338 w42 ho hb hg hat
          have HS0_ := cell_grown hg (hHeld.1) (by have r_ := HO_12.out.1; (first | rw [add_block] | (show some (Addr.add _ _).block ≠ _; rw [add_block]) | skip); intro e_; have k_ := r_ _ e_.symm; first | exact k_ rfl | exact k_.1 rfl | exact k_.2 rfl | exact k_.1.1 rfl | exact k_.1.2 rfl | exact k_.2.1 rfl | exact k_.2.2 rfl | exact k_.1.1.1 rfl | exact k_.1.1.2 rfl | exact k_.1.2.1 rfl | exact k_.1.2.2 rfl | exact k_.2.1.1 rfl | exact k_.2.1.2 rfl | exact k_.2.2.1 rfl | exact k_.2.2.2 rfl | exact k_.2.2.2.1 rfl | exact k_.2.2.2.2 rfl | exact k_.1.1.1.1 rfl | exact k_.1.1.1.2 rfl)
          rw [← Ny337.out] at ho
          refine nx7_ (Kd.R_after (ok := (fun k_ => some k_ ≠ (v328 : Value).ownBlock ∧ some k_ ≠ (v331 : Value).ownBlock ∧ some k_ ≠ (.slice Ao43 y334.length co43 : Value).ownBlock)) (R_mono (rU_ HO_10.out) (fun _ hk => ⟨⟨hk.1, ⟨hk.2.1, hk.2.2.1⟩⟩, hk.2.2.2⟩)) hg hat) (blk_grown (g := gb320) (o := .cells #[.int .i64 a0_0, .int .i64 a0_1, .int .u64 a0_2] 24 (0, 0)) (kU_ BK320.out) hg (Kd.R_ne HO_12.out BK320.out (by decide))) (Kd.R_after (ok := (fun k_ => some k_ ≠ (.slice (some ad326) t322.length co34 : Value).ownBlock ∧ some k_ ≠ (v331 : Value).ownBlock ∧ some k_ ≠ (.slice Ao43 y334.length co43 : Value).ownBlock)) (R_mono (rU_ HO329.out) (fun _ hk => ⟨⟨hk.2.2.1, ⟨hk.1, hk.2.1⟩⟩, hk.2.2.2⟩)) hg hat) (Kd.R_after (ok := (fun k_ => some k_ ≠ (.slice (some ad326) t322.length co34 : Value).ownBlock ∧ some k_ ≠ (v328 : Value).ownBlock ∧ some k_ ≠ (.slice Ao43 y334.length co43 : Value).ownBlock)) (R_mono (rU_ HO332.out) (fun _ hk => ⟨⟨hk.2.2.1, ⟨hk.1, hk.2.1⟩⟩, hk.2.2.2⟩)) hg hat) (Kd.R_after (ok := (fun k_ => some k_ ≠ (.slice (some ad326) t322.length co34 : Value).ownBlock ∧ some k_ ≠ (v328 : Value).ownBlock ∧ some k_ ≠ (v331 : Value).ownBlock)) (R_mono (rU_ HO336.out) (fun _ hk => ⟨⟨hk.2.2.1, ⟨hk.1, hk.2.1⟩⟩, hk.2.2.2⟩)) hg hat) (hb) (ho) ?_
          clear HO_10 BK320 HO329 HO332 HO336 HB HO_12
          intro HO_10 BK320 HO329 HO332 HO336 HB HO339
          clear ho hb hg hat
          refine hK.out _ _ ⟨HS0_, ((HB.out.cell (World.block_lt_of_cell? w _ hw333_0)).trans hw333_0)⟩ (fun hHeld => ?_)
          clear hK K
          refine norm_ (a' := ?_) ?_ ?_
          rotate_left
          ·show Act.put _ (some 73) _ = _
           simp only [Act.put, s1_, s2_, s3_, i64_w, i32_w]
           rfl
          refine pq_ 14 11 16 32767 HT_.out ?_
          refine pq_ 15 12 16 65535 HT_.out ?_
          refine done_ (done_of HT_.out (by kernel_rfl)) ?_
          try go_wp2
          go_roundg k3
          case measure => have := HJ4.out; have := HJ13.out; have := HK3.out; omega
          case rel => exact ⟨(y330), (y337), (wrap64 (x48_3 + 1)), gb_, H', ⟨by have := HJ4.out; have := HJ13.out; have := HK3.out; omega⟩, ⟨R_mono (rU_ HO_10.out) (fun _ hk => ⟨hk.1.2.1, hk.2⟩)⟩, ⟨R_mono (rU_ HO332.out) (fun _ hk => ⟨hk.1.1, hk.2⟩)⟩, ⟨R_mono (rU_ HO339.out) (fun _ hk => ⟨hk.1, hk.2.2.1⟩)⟩, ⟨by (with_reducible repeat (first | refine blk_drewN ?_ _ | refine blk_drew ?_ | refine blk_alloc ?_ _)); exact BK320.out⟩, ⟨sU_⟩⟩
         rw [if_neg c26] at H
         have c26b0 := decide_eq_false c26
         clear c26
         have H' := ak H
         clear H
         have p325 : 0 ≤ (x48_3 : Int) := od_
         have q325 : x48_3 < (l2.length : Int) := od_
         obtain ⟨ad325, e325, hx325_0⟩ := Kd.at_bool HR2.out x48_3 p325 q325
         (try rw [← Nbq24.out] at hx325_0)
         cases e325
         replace hx325_0 := (HB.out.cell (World.block_lt_of_cell? w _ hx325_0)).trans hx325_0
         replace p325 := eq_true p325
         replace q325 := eq_true q325
         obtain ⟨Ao44, co44, eo44⟩ := R_slice HO_11.out
         subst eo44
         go_wp2
         go_roundg k3
         case measure => have := HJ4.out; have := HJ13.out; have := HK3.out; omega
         case rel => exact ⟨(x11_3), (x12_3), (wrap64 (x48_3 + 1)), gb_, H', ⟨by have := HJ4.out; have := HJ13.out; have := HK3.out; omega⟩, ⟨rU_ HO_10.out⟩, ⟨rU_ HO_11.out⟩, ⟨rU_ HO_12.out⟩, ⟨by (with_reducible repeat (first | refine blk_drewN ?_ _ | refine blk_drew ?_ | refine blk_alloc ?_ _)); exact BK320.out⟩, ⟨sU_⟩⟩
        replace c25 := Bool.eq_false_iff.mpr c25
        subst c25
        rw [if_neg (show ¬ (false = true) by decide)] at H
        have H' := ak H
        clear H
        have p325 : 0 ≤ (x48_3 : Int) := od_
        have q325 : x48_3 < (l2.length : Int) := od_
        obtain ⟨ad325, e325, hx325_0⟩ := Kd.at_bool HR2.out x48_3 p325 q325
        (try rw [← Nbq24.out] at hx325_0)
        cases e325
        replace hx325_0 := (HB.out.cell (World.block_lt_of_cell? w _ hx325_0)).trans hx325_0
        replace p325 := eq_true p325
        replace q325 := eq_true q325
        go_wp2
        go_roundg k3
        case measure => have := HJ4.out; have := HJ13.out; have := HK3.out; omega
        case rel => exact ⟨(x11_3), (x12_3), (wrap64 (x48_3 + 1)), gb_, H', ⟨by have := HJ4.out; have := HJ13.out; have := HK3.out; omega⟩, ⟨rU_ HO_10.out⟩, ⟨rU_ HO_11.out⟩, ⟨rU_ HO_12.out⟩, ⟨by (with_reducible repeat (first | refine blk_drewN ?_ _ | refine blk_drew ?_ | refine blk_alloc ?_ _)); exact BK320.out⟩, ⟨sU_⟩⟩
       rw [if_neg c21] at H
       have c21b0 := decide_eq_false c21
       clear c21
       by_cases c45 : (x11_3.length : Int) < a3
       ·rw [if_pos c45] at H
        have c45b0 := decide_eq_true c45
        clear c45
        simp only [Option.some.injEq, Prod.mk.injEq] at H
        obtain ⟨rfl, rfl⟩ := H
        obtain ⟨Ao46, co46, eo46⟩ := R_slice HO_11.out
        subst eo46
        go_wp2
        go_ret2
        exact ⟨_, eW_, by first | exact Kd.R_nil _ _ _ _ _ | exact Kd.N_nil _ _ _ _ _ | exact Kd.V_nil _ _ _ _ _ | exact Kd.Q_nil _ _ _ _ _ | exact Kd.S_nil _ _ _ _ _, sU_⟩
       rw [if_neg c45] at H
       have c45b0 := decide_eq_false c45
       clear c45
       revert H
       refine bd2_ fun t340 t341 A47 H => ?_
       try dsimp only at H
       by_cases c48 : t341 = 0
       ·rw [if_pos c48] at H
        have c48b0 := beq_iff_eq.mpr c48
        have c48b1 := bne_eq_false_iff_eq.mpr c48
        clear c48
        revert H
        refine bd2_ fun t344 t345 A49 H => ?_
        try dsimp only at H
        by_cases c50 : t345 = 0
        ·rw [if_pos c50] at H
         have c50b0 := beq_iff_eq.mpr c50
         have c50b1 := bne_eq_false_iff_eq.mpr c50
         clear c50
         have H' := ak H
         clear H
         obtain ⟨Ao51, co51, eo51⟩ := R_slice HO_11.out
         subst eo51
         have hcz52_0 := bc0_ BK320.out
         have hcz52_1 := bc1_ BK320.out
         have hcz52_2 := bc2_ BK320.out
         have hfz52_0 := blk_frozen BK320.out 0
         have hfz52_1 := blk_frozen BK320.out 1
         have hfz52_2 := blk_frozen BK320.out 2
         obtain ⟨Ao53, co53, eo53⟩ := R_slice HO_12.out
         subst eo53
         go_wp2_with (first | ((with_reducible refine gate_callee (f := 63) rfl ?_); refine gl_ (some 84) Tryd.func63 #[.int .i64 a0_0, .slice Ao51 x11_3.length co51, .slice Ao53 x12_3.length co53] ?_; (with_reducible refine (poly_Through.calls k3 a0_0 _ _ x11_3 _ _ x12_3 t340 t341 _ ?side1 ?side2 ?side3 ?side4 ?side5 A47.out).mono ?_); (case side1 => repeat (first | with_reducible exact HG.out | with_reducible exact (Fld.below HG.out HB.out) | exact (Fld.below HG.out sU_) | (with_reducible refine Fld.alloc ?_ _) | (with_reducible refine Fld.drewN ?_ _) | (with_reducible refine Fld.drew ?_))); (case side2 => exact cU_ ((R_reads' HO_11.out).2.2)); (case side3 => exact (R_reads' HO_11.out).2.1); (case side4 => exact cU_ ((R_reads' HO_12.out).2.2)); (case side5 => exact (R_reads' HO_12.out).2.1); rintro e w54 ⟨v342, rfl, ho0, hb⟩; refine ⟨_, rfl, ?_⟩; refine nx6_ (R_elder' (rU_ HO_10.out) (R_base ho0) hb) (R_elder' (rU_ HO_11.out) (R_base ho0) hb) (R_elder' (rU_ HO_12.out) (R_base ho0) hb) (R_lower (R_new' (R_new' (R_new' ho0 (R_lt (rU_ HO_10.out))) (R_lt (rU_ HO_11.out))) (R_lt (rU_ HO_12.out))) (below_size sU_)) (blk_below (kU_ BK320.out) hb) (below_step sU_ hb) ?_; clear HO_10 HO_11 HO_12 BK320 HB; intro HO_10 HO_11 HO_12 HO343 BK320 HB; clear hb ho0; have hcz55_0 := bc0_ BK320.out; have hcz55_1 := bc1_ BK320.out; have hcz55_2 := bc2_ BK320.out; have hfz55_0 := blk_frozen BK320.out 0; have hfz55_1 := blk_frozen BK320.out 1; have hfz55_2 := blk_frozen BK320.out 2; obtain ⟨Ao56, co56, eo56⟩ := R_slice HO343.out; subst eo56) | ((with_reducible refine gate_callee (f := 64) rfl ?_); refine gl_ (some 98) Tryd.func64 #[.int .i64 a0_0, .int .i64 a0_1, .int .u64 a0_2, .slice Ao56 t340.length co56] ?_; (with_reducible refine (transform_Values.calls k3 a0_0 a0_1 a0_2 _ _ t340 t344 t345 _ ?side1 ?side2 ?side3 A49.out).mono ?_); (case side1 => repeat (first | with_reducible exact HG.out | with_reducible exact (Fld.below HG.out HB.out) | exact (Fld.below HG.out sU_) | (with_reducible refine Fld.alloc ?_ _) | (with_reducible refine Fld.drewN ?_ _) | (with_reducible refine Fld.drew ?_))); (case side2 => exact cU_ ((R_reads' HO343.out).2.2)); (case side3 => exact (R_reads' HO343.out).2.1); rintro e w57 ⟨v346, rfl, ho0, hb⟩; refine ⟨_, rfl, ?_⟩; refine nx7_ (R_elder' (rU_ HO_10.out) (R_base ho0) hb) (R_elder' (rU_ HO_11.out) (R_base ho0) hb) (R_elder' (rU_ HO_12.out) (R_base ho0) hb) (R_elder' (rU_ HO343.out) (R_base ho0) hb) (R_lower (R_new' (R_new' (R_new' (R_new' ho0 (R_lt (rU_ HO_10.out))) (R_lt (rU_ HO_11.out))) (R_lt (rU_ HO_12.out))) (R_lt (rU_ HO343.out))) (below_size sU_)) (blk_below (kU_ BK320.out) hb) (below_step sU_ hb) ?_; clear HO_10 HO_11 HO_12 HO343 BK320 HB; intro HO_10 HO_11 HO_12 HO343 HO347 BK320 HB; clear hb ho0))
         go_loopg [106] k3 (fun kq v106 w' => ∃ (x106_4 : Int), v106 = .int .i64 x106_4 ∧ Aside0 (code_Fill.l1 kq l1 t344 l2 (l2.length : Int) x106_4 a0_0 a0_1 a0_2 = some (r1, r2)) ∧ Aside0 (kq ≤ k3) ∧ Aside0 (Kd.R (Kd.int .u64) 22 w' w.heap.size (fun _ => True) v346 t344) ∧ Aside0 (w'.heap[gb320]? = some (.cells #[.int .i64 a0_0, .int .i64 a0_1, .int .u64 a0_2] 24 (0, 0))) ∧ Aside0 (Below w.heap.size w w'))
         case atStart => exact ⟨(0), gb_, H', ⟨Nat.le_refl _⟩, ⟨R_mono (rU_ HO347.out) (fun _ hk => trivial)⟩, ⟨by (with_reducible repeat (first | refine blk_drewN ?_ _ | refine blk_drew ?_ | refine blk_alloc ?_ _)); exact BK320.out⟩, ⟨sU_⟩⟩
         case round =>
          clear H'
          (try clear c2); (try clear p2); (try clear q2); (try clear c3); (try clear p3); (try clear q3); (try clear hx3); (try clear c4); (try clear c5); (try clear c6); (try clear p6); (try clear c21); (try clear c21b0); (try clear c22); (try clear c23); (try clear q24); (try clear c25); (try clear c26); (try clear c26b0); (try clear c27); (try clear c28); (try clear c29); (try clear c30); (try clear p32); (try clear q32); (try clear hx32); (try clear p33); (try clear q33); (try clear hx33); (try clear c45); (try clear c45b0); (try clear c48); (try clear c48b0); (try clear c48b1); (try clear c50); (try clear c50b0); (try clear c50b1); (try clear hcz52_0); (try clear hcz52_1); (try clear hcz52_2); (try clear hcz55_0); (try clear hcz55_1); (try clear hcz55_2); (try clear hfz52_0); (try clear hfz52_1); (try clear hfz52_2); (try clear hfz55_0); (try clear hfz55_1); (try clear hfz55_2); (try clear hx325_0); (try clear hx326_0); (try clear hx333_0); (try clear p325); (try clear p326); (try clear p333); (try clear q325); (try clear q326); (try clear q333)
          obtain ⟨x106_4, rfl, HA, HK4, HO_17, BK320, HB⟩ := hrel
          cases gk with
          | zero => exact absurd HA.out (by simp [code_Fill.l1])
          | succ k4 =>
           have H := HA.out
           clear HA
           simp only [code_Fill.l1] at H
           by_cases c58 : x106_4 < (l2.length : Int)
           ·rw [if_pos c58] at H
            have c58b0 := decide_eq_true c58
            clear c58
            obtain ⟨c59, H⟩ : (0 ≤ x106_4) ∧ _ := it_ H
            have c59b0 := decide_eq_true c59
            clear c59
            obtain ⟨c60, H⟩ : (x106_4 < (l2.length : Int)) ∧ _ := it_ H
            have c60b0 := decide_eq_true c60
            clear c60
            obtain ⟨bq61, hbq61⟩ : ∃ b_ : Bool, b_ = (rdOf false l2 x106_4) := ⟨_, rfl⟩
            replace H : (if bq61 = true then (if x106_4 < (t344.length : Int) then (if x106_4 < (l1.length : Int) then ((field_Reduce.f a0_0 (rd l1 x106_4)).bind fun t351 => (if (rd t344 x106_4) = t351 then (code_Fill.l1 k4 l1 t344 l2 (l2.length : Int) (wrap64 (x106_4 + 1)) a0_0 a0_1 a0_2) else (some (([] : List Int), 7)))) else (none)) else (none)) else (code_Fill.l1 k4 l1 t344 l2 (l2.length : Int) (wrap64 (x106_4 + 1)) a0_0 a0_1 a0_2)) = some (r1, r2) := by rw [← hbq61] at H; exact H
            have Nbq61 := ak hbq61
            clear hbq61
            by_cases c62 : bq61 = true
            ·subst c62
             rw [if_pos rfl] at H
             obtain ⟨c63, H⟩ : (x106_4 < (t344.length : Int)) ∧ _ := it_ H
             have c63b0 := decide_eq_true c63
             clear c63
             obtain ⟨c64, H⟩ : (x106_4 < (l1.length : Int)) ∧ _ := it_ H
             have c64b0 := decide_eq_true c64
             clear c64
             revert H
             refine bd_ fun t351 A65 H => ?_
             by_cases c66 : (rd t344 x106_4) = t351
             ·rw [if_pos c66] at H
              have c66b0 := beq_iff_eq.mpr c66
              have c66b1 := bne_eq_false_iff_eq.mpr c66
              clear c66
              have H' := ak H
              clear H
              have p348 : 0 ≤ (x106_4 : Int) := od_
              have q348 : x106_4 < (l2.length : Int) := od_
              obtain ⟨ad348, e348, hx348_0⟩ := Kd.at_bool HR2.out x106_4 p348 q348
              (try rw [← Nbq61.out] at hx348_0)
              cases e348
              replace hx348_0 := (HB.out.cell (World.block_lt_of_cell? w _ hx348_0)).trans hx348_0
              replace p348 := eq_true p348
              replace q348 := eq_true q348
              try go_wp2
              refine nx3_ (R_drew HO_17.out) (blk_drew BK320.out) (below_drew1 HB.out) ?_
              clear HO_17 BK320 HB
              intro HO_17 BK320 HB
              obtain ⟨Ao68, co68, eo68⟩ := R_slice HO_17.out
              (first | subst eo68 | (injection eo68 with f1_ f2_ f3_; have f4_ := f1_.symm; have f5_ := f3_.symm; clear f1_ f2_ f3_; subst f4_; subst f5_))
              have p349 : 0 ≤ (x106_4 : Int) := od_
              have q349 : x106_4 < (t344.length : Int) := od_
              obtain ⟨ad349, e349, hx349_0⟩ := Kd.at_int (R_reads' HO_17.out).2.2 x106_4 p349 q349
              cases e349
              replace p349 := eq_true p349
              replace q349 := eq_true q349
              have p350 : 0 ≤ (x106_4 : Int) := od_
              have q350 : x106_4 < (l1.length : Int) := od_
              obtain ⟨ad350, e350, hx350_0⟩ := Kd.at_int HR1.out x106_4 p350 q350
              have hw350_0 := hx350_0
              cases e350
              replace hx350_0 := (HB.out.cell (World.block_lt_of_cell? w _ hx350_0)).trans hx350_0
              replace p350 := eq_true p350
              replace q350 := eq_true q350
              refine start_ (n := 15) (S := fun w' => w'.cell? ⟨gb320, 0, none⟩ = some (.int .i64 a0_0) ∧ w'.cell? ⟨gb320, 1, none⟩ = some (.int .i64 a0_1) ∧ w'.cell? ⟨gb320, 2, none⟩ = some (.int .u64 a0_2) ∧ w'.cell? (ad349.add (x106_4).toNat) = some (.int .u64 (rd t344 x106_4)) ∧ w'.cell? (ad350.add (x106_4).toNat) = some (.int .u64 (rd l1 x106_4))) (ds := []) (bv 15 0) (by kernel_rfl) rfl rfl ⟨bc0_ BK320.out, bc1_ BK320.out, bc2_ BK320.out, hx349_0, ((HB.out.cell (World.block_lt_of_cell? w _ hw350_0)).trans hw350_0)⟩ (fun hHeld => ?_); refine with_tabW code_Fill.tab26 code_Fill.bits26 (fun HT_ HW_ => ?_)
              generalize wr.drew = w67 at HO_17 BK320 HB hx349_0 hx350_0 hHeld ⊢
              refine pq_ 0 111 15 1 HT_.out ?_
              refine pq_ 1 112 15 3 HT_.out ?_
              refine pq_ 2 113 15 7 HT_.out ?_
              refine pq_ 3 114 15 15 HT_.out ?_
              refine pq_ 4 115 15 31 HT_.out ?_
              refine pq_ 6 117 15 95 HT_.out ?_
              refine pq_ 8 119 15 351 HT_.out ?_
              refine pq_ 9 120 15 863 HT_.out ?_
              refine pq_ 10 121 15 1887 HT_.out ?_
              refine tq_ 5 116 15 1919 HT_.out HW_.out hHeld ?_
              refine tq_ 7 118 15 2047 HT_.out HW_.out hHeld ?_
              refine tq_ 11 122 15 4095 HT_.out HW_.out hHeld ?_
              refine oq_ 12 123 15 8191 HT_.out fun K hK => ?_
              refine gs_ Tryd.func65 #[.int .i64 a0_0, .int .u64 (rd l1 x106_4)] ?_
              with_reducible refine (field_Reduce.calls a0_0 (rd l1 x106_4) t351 _ ?side1 A65.out).mono ?_
              (case side1 => repeat (first | with_reducible exact HG.out | with_reducible exact (Fld.below HG.out HB.out) | exact (Fld.below HG.out sU_) | (with_reducible refine Fld.alloc ?_ _) | (with_reducible refine Fld.drewN ?_ _) | (with_reducible refine Fld.drew ?_)))
              rintro e w69 ⟨rfl, hb⟩
              have HS3_ := (hb.cell (World.block_lt_of_cell? _ _ (hHeld.2.2.2.1))).trans (hHeld.2.2.2.1)
              refine ⟨_, rfl, ?_⟩
              refine nx3_ (R_below (rU_ HO_17.out) hb) (blk_below (kU_ BK320.out) hb) (below_step sU_ hb) ?_
              clear HO_17 BK320 HB
              intro HO_17 BK320 HB
              (try clear hb)
              (try clear hb2)
              (try clear hk)
              (try clear hi)
              refine hK.out _ _ ⟨bc0_ BK320.out, bc1_ BK320.out, bc2_ BK320.out, HS3_, ((HB.out.cell (World.block_lt_of_cell? w _ hw350_0)).trans hw350_0)⟩ (fun hHeld => ?_)
              clear hK K
              refine norm_ (a' := ?_) ?_ ?_
              rotate_left
              ·show Act.put _ (some 123) _ = _
               simp only [Act.put, s1_, s2_, s3_, i64_w, i32_w]
               rfl
              refine pq_ 13 124 15 16383 HT_.out ?_
              refine pq_ 14 125 15 32767 HT_.out ?_
              refine done_ (done_of HT_.out (by kernel_rfl)) ?_
              try go_wp2
              go_roundg k4
              case measure => have := HJ4.out; have := HJ13.out; have := HK3.out; have := HK4.out; omega
              case rel => exact ⟨(wrap64 (x106_4 + 1)), gb_, H', ⟨by have := HJ4.out; have := HJ13.out; have := HK3.out; have := HK4.out; omega⟩, ⟨rU_ HO_17.out⟩, ⟨by (with_reducible repeat (first | refine blk_drewN ?_ _ | refine blk_drew ?_ | refine blk_alloc ?_ _)); exact BK320.out⟩, ⟨sU_⟩⟩
             rw [if_neg c66] at H
             have c66b0 := beq_eq_false_iff_ne.mpr c66
             have c66b1 := bne_iff_ne.mpr c66
             simp only [Option.some.injEq, Prod.mk.injEq] at H
             obtain ⟨rfl, rfl⟩ := H
             have p348 : 0 ≤ (x106_4 : Int) := od_
             have q348 : x106_4 < (l2.length : Int) := od_
             obtain ⟨ad348, e348, hx348_0⟩ := Kd.at_bool HR2.out x106_4 p348 q348
             (try rw [← Nbq61.out] at hx348_0)
             cases e348
             replace hx348_0 := (HB.out.cell (World.block_lt_of_cell? w _ hx348_0)).trans hx348_0
             replace p348 := eq_true p348
             replace q348 := eq_true q348
             try go_wp2
             refine nx3_ (R_drew HO_17.out) (blk_drew BK320.out) (below_drew1 HB.out) ?_
             clear HO_17 BK320 HB
             intro HO_17 BK320 HB
             obtain ⟨Ao71, co71, eo71⟩ := R_slice HO_17.out
             (first | subst eo71 | (injection eo71 with f1_ f2_ f3_; have f4_ := f1_.symm; have f5_ := f3_.symm; clear f1_ f2_ f3_; subst f4_; subst f5_))
             have p349 : 0 ≤ (x106_4 : Int) := od_
             have q349 : x106_4 < (t344.length : Int) := od_
             obtain ⟨ad349, e349, hx349_0⟩ := Kd.at_int (R_reads' HO_17.out).2.2 x106_4 p349 q349
             cases e349
             replace p349 := eq_true p349
             replace q349 := eq_true q349
             have p350 : 0 ≤ (x106_4 : Int) := od_
             have q350 : x106_4 < (l1.length : Int) := od_
             obtain ⟨ad350, e350, hx350_0⟩ := Kd.at_int HR1.out x106_4 p350 q350
             have hw350_0 := hx350_0
             cases e350
             replace hx350_0 := (HB.out.cell (World.block_lt_of_cell? w _ hx350_0)).trans hx350_0
             replace p350 := eq_true p350
             replace q350 := eq_true q350
             refine start_ (n := 15) (S := fun w' => w'.cell? ⟨gb320, 0, none⟩ = some (.int .i64 a0_0) ∧ w'.cell? ⟨gb320, 1, none⟩ = some (.int .i64 a0_1) ∧ w'.cell? ⟨gb320, 2, none⟩ = some (.int .u64 a0_2) ∧ w'.cell? (ad349.add (x106_4).toNat) = some (.int .u64 (rd t344 x106_4)) ∧ w'.cell? (ad350.add (x106_4).toNat) = some (.int .u64 (rd l1 x106_4))) (ds := []) (bv 15 0) (by kernel_rfl) rfl rfl ⟨bc0_ BK320.out, bc1_ BK320.out, bc2_ BK320.out, hx349_0, ((HB.out.cell (World.block_lt_of_cell? w _ hw350_0)).trans hw350_0)⟩ (fun hHeld => ?_); refine with_tabW code_Fill.tab26 code_Fill.bits26 (fun HT_ HW_ => ?_)
             generalize wr.drew = w70 at HO_17 BK320 HB hx349_0 hx350_0 hHeld ⊢
             refine pq_ 0 111 15 1 HT_.out ?_
             refine pq_ 1 112 15 3 HT_.out ?_
             refine pq_ 2 113 15 7 HT_.out ?_
             refine pq_ 3 114 15 15 HT_.out ?_
             refine pq_ 4 115 15 31 HT_.out ?_
             refine pq_ 6 117 15 95 HT_.out ?_
             refine pq_ 8 119 15 351 HT_.out ?_
             refine pq_ 9 120 15 863 HT_.out ?_
             refine pq_ 10 121 15 1887 HT_.out ?_
             refine tq_ 5 116 15 1919 HT_.out HW_.out hHeld ?_
             refine tq_ 7 118 15 2047 HT_.out HW_.out hHeld ?_
             refine tq_ 11 122 15 4095 HT_.out HW_.out hHeld ?_
             refine oq_ 12 123 15 8191 HT_.out fun K hK => ?_
             refine gs_ Tryd.func65 #[.int .i64 a0_0, .int .u64 (rd l1 x106_4)] ?_
             with_reducible refine (field_Reduce.calls a0_0 (rd l1 x106_4) t351 _ ?side1 A65.out).mono ?_
             (case side1 => repeat (first | with_reducible exact HG.out | with_reducible exact (Fld.below HG.out HB.out) | exact (Fld.below HG.out sU_) | (with_reducible refine Fld.alloc ?_ _) | (with_reducible refine Fld.drewN ?_ _) | (with_reducible refine Fld.drew ?_)))
             rintro e w72 ⟨rfl, hb⟩
             have HS3_ := (hb.cell (World.block_lt_of_cell? _ _ (hHeld.2.2.2.1))).trans (hHeld.2.2.2.1)
             refine ⟨_, rfl, ?_⟩
             refine nx3_ (R_below (rU_ HO_17.out) hb) (blk_below (kU_ BK320.out) hb) (below_step sU_ hb) ?_
             clear HO_17 BK320 HB
             intro HO_17 BK320 HB
             (try clear hb)
             (try clear hb2)
             (try clear hk)
             (try clear hi)
             refine hK.out _ _ ⟨bc0_ BK320.out, bc1_ BK320.out, bc2_ BK320.out, HS3_, ((HB.out.cell (World.block_lt_of_cell? w _ hw350_0)).trans hw350_0)⟩ (fun hHeld => ?_)
             clear hK K
             refine norm_ (a' := ?_) ?_ ?_
             rotate_left
             ·show Act.put _ (some 123) _ = _
              simp only [Act.put, s1_, s2_, s3_, i64_w, i32_w]
              rfl
             refine pq_ 13 124 15 16383 HT_.out ?_
             refine pq_ 14 125 15 32767 HT_.out ?_
             refine done_ (done_of HT_.out (by kernel_rfl)) ?_
             try go_wp2
             go_ret2
             exact ⟨_, eW_, by first | exact Kd.R_nil _ _ _ _ _ | exact Kd.N_nil _ _ _ _ _ | exact Kd.V_nil _ _ _ _ _ | exact Kd.Q_nil _ _ _ _ _ | exact Kd.S_nil _ _ _ _ _, sU_⟩
            replace c62 := Bool.eq_false_iff.mpr c62
            subst c62
            rw [if_neg (show ¬ (false = true) by decide)] at H
            have H' := ak H
            clear H
            have p348 : 0 ≤ (x106_4 : Int) := od_
            have q348 : x106_4 < (l2.length : Int) := od_
            obtain ⟨ad348, e348, hx348_0⟩ := Kd.at_bool HR2.out x106_4 p348 q348
            (try rw [← Nbq61.out] at hx348_0)
            cases e348
            replace hx348_0 := (HB.out.cell (World.block_lt_of_cell? w _ hx348_0)).trans hx348_0
            replace p348 := eq_true p348
            replace q348 := eq_true q348
            try go_wp2
            refine nx3_ (R_drew HO_17.out) (blk_drew BK320.out) (below_drew1 HB.out) ?_
            clear HO_17 BK320 HB
            intro HO_17 BK320 HB
            refine start_ (n := 15) (S := fun w' => True) (ds := []) (bv 15 0) (by kernel_rfl) rfl rfl trivial (fun hHeld => ?_); refine with_tabW code_Fill.tab26 code_Fill.bits26 (fun HT_ HW_ => ?_)
            generalize wr.drew = w73 at HO_17 BK320 HB hHeld ⊢
            refine pq_ 0 111 15 1 HT_.out ?_
            refine pq_ 1 112 15 3 HT_.out ?_
            refine uq_ 2 113 15 7 HT_.out ?_
            refine uq_ 3 114 15 15 HT_.out ?_
            refine uq_ 4 115 15 31 HT_.out ?_
            refine uq_ 5 116 15 63 HT_.out ?_
            refine uq_ 6 117 15 127 HT_.out ?_
            refine uq_ 7 118 15 255 HT_.out ?_
            refine uq_ 8 119 15 511 HT_.out ?_
            refine uq_ 9 120 15 1023 HT_.out ?_
            refine uq_ 10 121 15 2047 HT_.out ?_
            refine uq_ 11 122 15 4095 HT_.out ?_
            refine uq_ 12 123 15 8191 HT_.out ?_
            refine uq_ 13 124 15 16383 HT_.out ?_
            refine pq_ 14 125 15 32767 HT_.out ?_
            refine done_ (done_of HT_.out (by kernel_rfl)) ?_
            try go_wp2
            go_roundg k4
            case measure => have := HJ4.out; have := HJ13.out; have := HK3.out; have := HK4.out; omega
            case rel => exact ⟨(wrap64 (x106_4 + 1)), gb_, H', ⟨by have := HJ4.out; have := HJ13.out; have := HK3.out; have := HK4.out; omega⟩, ⟨rU_ HO_17.out⟩, ⟨by (with_reducible repeat (first | refine blk_drewN ?_ _ | refine blk_drew ?_ | refine blk_alloc ?_ _)); exact BK320.out⟩, ⟨sU_⟩⟩
           rw [if_neg c58] at H
           have c58b0 := decide_eq_false c58
           clear c58
           simp only [Option.some.injEq, Prod.mk.injEq] at H
           obtain ⟨rfl, rfl⟩ := H
           go_wp2
           go_ret2
           exact ⟨_, eW_, rU_ HO_17.out, sU_⟩
        rw [if_neg c50] at H
        have c50b0 := beq_eq_false_iff_ne.mpr c50
        have c50b1 := bne_iff_ne.mpr c50
        simp only [Option.some.injEq, Prod.mk.injEq] at H
        obtain ⟨rfl, rfl⟩ := H
        obtain ⟨Ao74, co74, eo74⟩ := R_slice HO_11.out
        subst eo74
        have hcz75_0 := bc0_ BK320.out
        have hcz75_1 := bc1_ BK320.out
        have hcz75_2 := bc2_ BK320.out
        have hfz75_0 := blk_frozen BK320.out 0
        have hfz75_1 := blk_frozen BK320.out 1
        have hfz75_2 := blk_frozen BK320.out 2
        obtain ⟨Ao76, co76, eo76⟩ := R_slice HO_12.out
        subst eo76
        go_wp2_with (first | ((with_reducible refine gate_callee (f := 63) rfl ?_); refine gl_ (some 84) Tryd.func63 #[.int .i64 a0_0, .slice Ao74 x11_3.length co74, .slice Ao76 x12_3.length co76] ?_; (with_reducible refine (poly_Through.calls k3 a0_0 _ _ x11_3 _ _ x12_3 t340 t341 _ ?side1 ?side2 ?side3 ?side4 ?side5 A47.out).mono ?_); (case side1 => repeat (first | with_reducible exact HG.out | with_reducible exact (Fld.below HG.out HB.out) | exact (Fld.below HG.out sU_) | (with_reducible refine Fld.alloc ?_ _) | (with_reducible refine Fld.drewN ?_ _) | (with_reducible refine Fld.drew ?_))); (case side2 => exact cU_ ((R_reads' HO_11.out).2.2)); (case side3 => exact (R_reads' HO_11.out).2.1); (case side4 => exact cU_ ((R_reads' HO_12.out).2.2)); (case side5 => exact (R_reads' HO_12.out).2.1); rintro e w77 ⟨v342, rfl, ho0, hb⟩; refine ⟨_, rfl, ?_⟩; refine nx6_ (R_elder' (rU_ HO_10.out) (R_base ho0) hb) (R_elder' (rU_ HO_11.out) (R_base ho0) hb) (R_elder' (rU_ HO_12.out) (R_base ho0) hb) (R_lower (R_new' (R_new' (R_new' ho0 (R_lt (rU_ HO_10.out))) (R_lt (rU_ HO_11.out))) (R_lt (rU_ HO_12.out))) (below_size sU_)) (blk_below (kU_ BK320.out) hb) (below_step sU_ hb) ?_; clear HO_10 HO_11 HO_12 BK320 HB; intro HO_10 HO_11 HO_12 HO343 BK320 HB; clear hb ho0; have hcz78_0 := bc0_ BK320.out; have hcz78_1 := bc1_ BK320.out; have hcz78_2 := bc2_ BK320.out; have hfz78_0 := blk_frozen BK320.out 0; have hfz78_1 := blk_frozen BK320.out 1; have hfz78_2 := blk_frozen BK320.out 2; obtain ⟨Ao79, co79, eo79⟩ := R_slice HO343.out; subst eo79) | ((with_reducible refine gate_callee (f := 64) rfl ?_); refine gl_ (some 98) Tryd.func64 #[.int .i64 a0_0, .int .i64 a0_1, .int .u64 a0_2, .slice Ao79 t340.length co79] ?_; (with_reducible refine (transform_Values.calls k3 a0_0 a0_1 a0_2 _ _ t340 t344 t345 _ ?side1 ?side2 ?side3 A49.out).mono ?_); (case side1 => repeat (first | with_reducible exact HG.out | with_reducible exact (Fld.below HG.out HB.out) | exact (Fld.below HG.out sU_) | (with_reducible refine Fld.alloc ?_ _) | (with_reducible refine Fld.drewN ?_ _) | (with_reducible refine Fld.drew ?_))); (case side2 => exact cU_ ((R_reads' HO343.out).2.2)); (case side3 => exact (R_reads' HO343.out).2.1); rintro e w80 ⟨v346, rfl, ho0, hb⟩; refine ⟨_, rfl, ?_⟩; refine nx7_ (R_elder' (rU_ HO_10.out) (R_base ho0) hb) (R_elder' (rU_ HO_11.out) (R_base ho0) hb) (R_elder' (rU_ HO_12.out) (R_base ho0) hb) (R_elder' (rU_ HO343.out) (R_base ho0) hb) (R_lower (R_new' (R_new' (R_new' (R_new' ho0 (R_lt (rU_ HO_10.out))) (R_lt (rU_ HO_11.out))) (R_lt (rU_ HO_12.out))) (R_lt (rU_ HO343.out))) (below_size sU_)) (blk_below (kU_ BK320.out) hb) (below_step sU_ hb) ?_; clear HO_10 HO_11 HO_12 HO343 BK320 HB; intro HO_10 HO_11 HO_12 HO343 HO347 BK320 HB; clear hb ho0))
        go_ret2
        exact ⟨_, eW_, by first | exact Kd.R_nil _ _ _ _ _ | exact Kd.N_nil _ _ _ _ _ | exact Kd.V_nil _ _ _ _ _ | exact Kd.Q_nil _ _ _ _ _ | exact Kd.S_nil _ _ _ _ _, sU_⟩
       rw [if_neg c48] at H
       have c48b0 := beq_eq_false_iff_ne.mpr c48
       have c48b1 := bne_iff_ne.mpr c48
       simp only [Option.some.injEq, Prod.mk.injEq] at H
       obtain ⟨rfl, rfl⟩ := H
       obtain ⟨Ao81, co81, eo81⟩ := R_slice HO_11.out
       subst eo81
       have hcz82_0 := bc0_ BK320.out
       have hcz82_1 := bc1_ BK320.out
       have hcz82_2 := bc2_ BK320.out
       have hfz82_0 := blk_frozen BK320.out 0
       have hfz82_1 := blk_frozen BK320.out 1
       have hfz82_2 := blk_frozen BK320.out 2
       obtain ⟨Ao83, co83, eo83⟩ := R_slice HO_12.out
       subst eo83
       go_wp2_with (first | ((with_reducible refine gate_callee (f := 63) rfl ?_); refine gl_ (some 84) Tryd.func63 #[.int .i64 a0_0, .slice Ao81 x11_3.length co81, .slice Ao83 x12_3.length co83] ?_; (with_reducible refine (poly_Through.calls k3 a0_0 _ _ x11_3 _ _ x12_3 t340 t341 _ ?side1 ?side2 ?side3 ?side4 ?side5 A47.out).mono ?_); (case side1 => repeat (first | with_reducible exact HG.out | with_reducible exact (Fld.below HG.out HB.out) | exact (Fld.below HG.out sU_) | (with_reducible refine Fld.alloc ?_ _) | (with_reducible refine Fld.drewN ?_ _) | (with_reducible refine Fld.drew ?_))); (case side2 => exact cU_ ((R_reads' HO_11.out).2.2)); (case side3 => exact (R_reads' HO_11.out).2.1); (case side4 => exact cU_ ((R_reads' HO_12.out).2.2)); (case side5 => exact (R_reads' HO_12.out).2.1); rintro e w84 ⟨v342, rfl, ho0, hb⟩; refine ⟨_, rfl, ?_⟩; refine nx6_ (R_elder' (rU_ HO_10.out) (R_base ho0) hb) (R_elder' (rU_ HO_11.out) (R_base ho0) hb) (R_elder' (rU_ HO_12.out) (R_base ho0) hb) (R_lower (R_new' (R_new' (R_new' ho0 (R_lt (rU_ HO_10.out))) (R_lt (rU_ HO_11.out))) (R_lt (rU_ HO_12.out))) (below_size sU_)) (blk_below (kU_ BK320.out) hb) (below_step sU_ hb) ?_; clear HO_10 HO_11 HO_12 BK320 HB; intro HO_10 HO_11 HO_12 HO343 BK320 HB; clear hb ho0))
       go_ret2
       exact ⟨_, eW_, by first | exact Kd.R_nil _ _ _ _ _ | exact Kd.N_nil _ _ _ _ _ | exact Kd.V_nil _ _ _ _ _ | exact Kd.Q_nil _ _ _ _ _ | exact Kd.S_nil _ _ _ _ _, sU_⟩

end Go.Proofs.YtedapdagagkajaaDoor.Q

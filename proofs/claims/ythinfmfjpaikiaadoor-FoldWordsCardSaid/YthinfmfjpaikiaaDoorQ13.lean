import Derived.Test.YthinfmfjpaikiaaDoorQ0
import Derived.Test.YthinfmfjpaikiaaDoorQ2
import Derived.Test.YthinfmfjpaikiaaDoorQ3
namespace Go.Proofs.YthinfmfjpaikiaaDoor.Q
open Go.RowKit Go.Proofs.YthinfmfjpaikiaaDoorW.PrintWords Go.Proofs.YthinfmfjpaikiaaDoorW.PrintLast Go.Proofs.YthinfmfjpaikiaaDoorW.PrintMore
open Kd (R_below R_mono R_types R_lower R_newM R_slice R_lit R_make C_below freshB)
attribute [local go_sem] max2_int min2_int max_two min_two max_three min_three max_four min_four   -- for this text's walks alone
set_option linter.unusedVariables false
set_option linter.unusedSimpArgs false


theorem S_of_one {α : Type} {d : Kd α} {e base : Nat} {ok : Nat → Prop} {w : World} {v : Value} {x : α} (h : d.R e w base ok v [x]) : Kd.S d e w base ok v [x] := by
 obtain ⟨h0, inner, ho, hr⟩ := h
 refine ⟨fun _ => 0, h0, inner, ho, hr.1, fun j p hj => ?_⟩
 rcases j with _ | j
 ·simp at hj
  subst hj
  exact d.M_mono (fun _ hk => ⟨hk, rfl⟩) (hr.2 0 x rfl)
 simp at hj
theorem wset_ {w : World} {B : Nat} {v : Value} {t : TypeId} (u : Value) (h : w.heap[B]? = some (.cells #[v] t (0, 0))) : (w.setCell ⟨B, 0, none⟩ u).heap[B]? = some (.cells #[u] t (0, 0)) := by
 simp [World.setCell, Array.getElem?_modify, h]
def fold_Words_1.f (k : Nat) (d0 d1 d2 : Int) (L : List (List Int)) (z : Int) : Option (List (List Int) × Int × Int × Int) := if 0 < L.length ∧ L.length < 5864062014805 then (fold_Word.f k d0 d1 d2 (rd_L1 L ((L.length - 1 : Nat) : Int)) z).bind fun bt => if bt.2 = 0 then (fold_Next.f k d0 d1 d2).bind fun nt => if nt.2.2.2 = 0 then some (L ++ [bt.1], nt.1, nt.2.1, nt.2.2.1) else none else none else none
set_option maxHeartbeats 8000000 in
set_option maxRecDepth 100000 in
theorem fold_Words_1.calls (k : Nat) (z : Int) (Bd Bo : Nat) (v0 : Value) (L r : List (List Int)) (d0 d1 d2 n0 n1 n2 : Int) (w0 w : World) (hG : Fld w0) (hB : Below w0.heap.size w0 w) (hbd : w0.heap.size ≤ Bd) (hbo : w0.heap.size ≤ Bo) (hne : Bd ≠ Bo)
  (hkd : w.heap[Bd]? = some (.cells #[.int .i64 d0, .int .i64 d1, .int .u64 d2] 24 (0, 0))) (hko : w.heap[Bo]? = some (.cells #[v0] 46 (0, 0)))
  (hr : Kd.S (Kd.slice 22 (Kd.int .u64)) 33 w w0.heap.size (fun k_ => (w0.heap.size ≤ k_) ∧ k_ ≠ Bd ∧ k_ ≠ Bo) v0 L) (h : fold_Words_1.f k d0 d1 d2 L z = some (r, n0, n1, n2)) :
  Calls Tryd.prog 59 #[.int .u64 z, .pointer (some ⟨Bd, 0, none⟩), .pointer (some ⟨Bo, 0, none⟩)] w fun e w' => ∃ v1 : Value, e = .returned (.int .i64 0) ∧ w'.heap[Bd]? = some (.cells #[.int .i64 n0, .int .i64 n1, .int .u64 n2] 24 (0, 0)) ∧ w'.heap[Bo]? = some (.cells #[v1] 46 (0, 0)) ∧ Kd.S (Kd.slice 22 (Kd.int .u64)) 33 w' w0.heap.size (fun k_ => (w0.heap.size ≤ k_) ∧ k_ ≠ Bd ∧ k_ ≠ Bo) v1 r ∧ Below w0.heap.size w0 w' := by
 have hu24 := Tryd.underlying24
 have HG := ak hG
 have HB := ak hB
 have BD := ak hkd
 have BO := ak hko
 have HO := ak hr
 have GD := ak hbd
 have GO := ak hbo
 have NE := ak hne
 clear hG hB hkd hko hr hbd hbo hne
 unfold fold_Words_1.f at h
 obtain ⟨⟨hl0, hl1⟩, h⟩ := it_ h
 obtain ⟨⟨t, e⟩, hw, h⟩ := Option.bind_eq_some_iff.mp h
 dsimp only at h
 obtain ⟨he, h⟩ := it_ h
 subst he
 obtain ⟨⟨m0, m1, m2, e2⟩, hn, h⟩ := Option.bind_eq_some_iff.mp h
 dsimp only at h
 obtain ⟨he, h⟩ := it_ h
 subst he
 simp only [Option.some.injEq, Prod.mk.injEq] at h
 obtain ⟨rfl, rfl, rfl, rfl⟩ := h
 have A1 := ak hw
 have A2 := ak hn
 clear hw hn
 obtain ⟨Ao, co, eo⟩ := Kd.S_slice HO.out
 subst eo
 obtain ⟨i, hi⟩ : ∃ i : Nat, i = L.length - 1 := ⟨_, rfl⟩
 rw [← hi] at A1
 have p0 : 0 ≤ (i : Int) := Int.natCast_nonneg _
 have q0 : (i : Int) < (L.length : Int) := by omega
 have ei : (L.length : Int) - 1 = (i : Int) := by omega
 have ew : wrap64 ((L.length : Int) - 1) = (i : Int) := by rw [ei]; unfold wrap64; omega
 have ex : wrap64 ((L.length - 1 : Nat) : Int) = (i : Int) := by rw [← hi]; unfold wrap64; omega
 have q1 : i < L.length := by omega
 clear hi ei ex
 obtain ⟨ad, A, c, ee, hx, hl, hi'⟩ := at_L1 (Kd.S_reads' HO.out).2.2 (i : Int) p0 q0
 cases ee
 rw [Int.toNat_natCast] at hx
 have HR := ak hi'
 have HC := ak hl
 clear hi' hl
 go_enter Tryd.func59, Tryd.ntmps59
 go_wp2
 refine start_ (n := 14) (S := fun w' => w'.heap[Bd]? = some (.cells #[.int .i64 d0, .int .i64 d1, .int .u64 d2] 24 (0, 0)) ∧ w'.heap[Bo]? = some (.cells #[.slice (some ad) L.length co] 46 (0, 0)) ∧ w'.cell? (ad.add i) = some (.slice A (rd_L1 L (i : Int)).length c)) (ds := []) (bv 14 0) (by kernel_rfl) rfl rfl ⟨BD.out, BO.out, hx⟩ (fun hHeld => ?_)
 have HT_ : Aside0 (rtab .any (opsOf Tryd.f59 1) = rtab .any (opsOf Tryd.f59 1)) := ⟨rfl⟩
 refine nx3_ (Kd.S_drew HO.out) (Kd.C_drew HR.out) (below_drew1 HB.out) ?_
 clear HO HR HB BD BO hx
 intro HO HR HB
 generalize w.drew = w5 at HO HR HB hHeld ⊢
 refine take_ (i := 0) (N := some 8) (v := ?_) (a' := ?_) (bv 14 1) rfl rfl (take_of HT_.out (by kernel_rfl)) (fun _ _ _ h => h) (Or.inl ⟨by rfl, ?_⟩) hHeld ?_ ?_
 rotate_left
 ·rintro w' ⟨s0, s1, s2⟩
  have z0 : w'.cell? ⟨Bd, 0, none⟩ = some (.int .i64 d0) := (blk_cell s0 0).trans rfl
  have z1 : w'.cell? ⟨Bd, 1, none⟩ = some (.int .i64 d1) := (blk_cell s0 1).trans rfl
  have z2 : w'.cell? ⟨Bd, 2, none⟩ = some (.int .u64 d2) := (blk_cell s0 2).trans rfl
  go_simp
  with_reducible rfl
 rotate_left
 ·simp only [Act.put, s1_, s2_, s3_, i64_w, i32_w]
  rfl
 refine take_ (i := 1) (N := some 9) (v := ?_) (a' := ?_) (bv 14 3) rfl rfl (take_of HT_.out (by kernel_rfl)) (fun _ _ _ h => h) (Or.inl ⟨by rfl, ?_⟩) hHeld ?_ ?_
 rotate_left
 ·rintro w' ⟨s0, s1, s2⟩
  have z0 : w'.cell? ⟨Bo, 0, none⟩ = some (.slice (some ad) L.length co) := (blk_cell s1 0).trans rfl
  go_simp
  with_reducible rfl
 rotate_left
 ·simp only [Act.put, s1_, s2_, s3_, i64_w, i32_w]
  rfl
 refine take_ (i := 2) (N := some 10) (v := ?_) (a' := ?_) (bv 14 7) rfl rfl (take_of HT_.out (by kernel_rfl)) (fun _ _ _ h => h) (Or.inl ⟨by rfl, ?_⟩) hHeld ?_ ?_
 rotate_left
 ·rintro w' ⟨s0, s1, s2⟩
  have z0 : w'.cell? ⟨Bo, 0, none⟩ = some (.slice (some ad) L.length co) := (blk_cell s1 0).trans rfl
  go_simp
  with_reducible rfl
 rotate_left
 ·simp only [Act.put, s1_, s2_, s3_, i64_w, i32_w]
  rfl
 refine pq_ 3 11 14 15 HT_.out ?_
 refine pq_ 4 12 14 31 HT_.out ?_
 refine pq_ 5 13 14 63 HT_.out ?_
 refine take_ (i := 6) (N := some 14) (v := ?_) (a' := ?_) (bv 14 127) rfl rfl (take_of HT_.out (by kernel_rfl)) (fun _ _ _ h => h) (Or.inl ⟨by rfl, ?_⟩) hHeld ?_ ?_
 rotate_left
 ·rintro w' ⟨s0, s1, s2⟩
  go_simp
  with_reducible rfl
 rotate_left
 ·simp only [Act.put, s1_, s2_, s3_, i64_w, i32_w]
  rfl
 refine pq_ 7 15 14 255 HT_.out ?_
 refine oq_ 8 16 14 511 HT_.out fun K hK => ?_
 refine gs_ Tryd.func20 #[.agg #[.int .i64 d0, .int .i64 d1, .int .u64 d2], .slice A (rd_L1 L (i : Int)).length c, .int .u64 z] ?_
 refine (fold_Word.calls k d0 d1 d2 A c (rd_L1 L (i : Int)) z t 0 _ (fU_ HG.out HB.out) HR.out HC.out A1.out).mono ?_
 rintro e w6 ⟨v1, rfl, hrow, hb⟩
 refine ⟨_, rfl, ?_⟩
 have HS2 := (hb.cell (World.block_lt_of_cell? _ _ hHeld.2.2)).trans hHeld.2.2
 have HN5 := ak (below_size HB.out)
 refine nx5_ (Kd.S_old HO.out hb) (R_lower (R_mono (Kd.R_bound hrow) (fun k_ hk => hk.2.1)) (below_size HB.out)) (bk_ hHeld.1 hb) (bk_ hHeld.2.1 hb) (below_step HB.out hb) ?_
 clear HO HR HB hrow hb
 intro HO HT BD BO HB
 refine hK.out _ _ ⟨BD.out, BO.out, HS2⟩ (fun hHeld => ?_)
 clear hK K HS2
 refine norm_ (a' := ?_) ?_ ?_
 rotate_left
 ·show Act.put _ (some 16) _ = _
  simp only [Act.put, s1_, s2_, s3_, i64_w, i32_w]
  rfl
 refine pq_ 9 7 14 1023 HT_.out ?_
 refine pq_ 10 17 14 2047 HT_.out ?_
 refine pq_ 11 18 14 4095 HT_.out ?_
 refine pq_ 12 5 14 8191 HT_.out ?_
 refine pq_ 13 6 14 16383 HT_.out ?_
 refine done_ (done_of HT_.out (by kernel_rfl)) ?_
 obtain ⟨At, ct, et⟩ := R_slice HT.out
 subst et
 clear hHeld
 have hczo := bc0_ BO.out
 have hfzo := blk_frozen BO.out 0
 go_wp2_with (first | ((with_reducible refine gate_builtin (b := .append) (xs := #[.tmp 22, .tmp 24]) rfl ?_); at_builtin; refine Kd.S_append (Kd.slice 22 (Kd.int .u64)) (w0 := w0) w0.heap.size rfl (.tmp 22) (.tmp 24) 46 33 (.slice none 0 0) 24 rfl Tryd.underlying46 info33 rfl (by decide) (by omega) (.slice (some ad) L.length co) L t [.slice At t.length ct] (fun k_ => (w0.heap.size ≤ k_) ∧ k_ ≠ Bd ∧ k_ ≠ Bo) (fun k_ => ((fun k_ => (w0.heap.size ≤ k_) ∧ k_ ≠ Bd ∧ k_ ≠ Bo) k_ ∧ some k_ ≠ (.slice (some ad) L.length co : Value).ownBlock) ∧ w5.heap.size ≤ k_) rfl rfl ?aP (fun _ hk => hk.1) ?aF ?aO ?aB ?aS ?aL ?_; (case aP => exact ⟨_, rfl, R_mono (R_types (R_types (Kd.R_apart' HT.out (Kd.S_typed HO.out) (by decide)) BD.out (by decide)) BO.out (by decide)) (fun k_ hk => ⟨⟨⟨Nat.le_trans HN5.out hk.1.1.1, hk.1.2, hk.2⟩, hk.1.1.2⟩, hk.1.1.1⟩)⟩); (case aB => exact HB.out); (case aF => exact (fun k_ hk => ⟨Nat.le_trans (below_size HB.out) hk, freshB BD.out k_ hk, freshB BO.out k_ hk⟩)); (case aO => exact Kd.S_mono HO.out (fun _ hk => ⟨hk.1, fun h_ => absurd h_.2 (Nat.not_le.2 hk.2)⟩)); (case aS => exact below_size HB.out); (case aL => omega); intro v2 w7 ho hb hg hat; refine nx4_ (blk_grown (g := Bd) (o := .cells #[.int .i64 d0, .int .i64 d1, .int .u64 d2] 24 (0, 0)) BD.out hg (Kd.S_ne HO.out BD.out (by decide))) (blk_grown (g := Bo) (o := .cells #[.slice (some ad) L.length co] 46 (0, 0)) BO.out hg (Kd.S_ne HO.out BO.out (by decide))) hb ho ?_; clear BD BO HB HO HT hczo hfzo ho hb hg hat; intro BD BO HB HO; obtain ⟨A7, c7, e7⟩ := Kd.S_slice HO.out; subst e7; have hczo := bc0_ BO.out; have hfzo := blk_frozen BO.out 0) | ((with_reducible refine gate_store (t := 46) (p := 2) rfl ?_); refine store_event (t := 46) (p := 2) (v := ?vo_w8) (w1 := (w7.setCell ⟨Bo, 0, none⟩ (.slice A7 (L ++ [t]).length c7))) ?hg ?ho ?hn ?hr ?_; (case ho => rfl); (case hg => rfl); (case hn => rfl); (case hr => first | (go_simp; done) | (go_simp; rfl)); intro w8 hw; subst hw; refine nx4_ (blk_far BD.out (p := ⟨Bo, 0, none⟩) NE.out (.slice A7 (L ++ [t]).length c7)) (wset_ (.slice A7 (L ++ [t]).length c7) BO.out) (below_set HB.out GO.out : Below w0.heap.size w0 (w7.setCell ⟨Bo, 0, none⟩ (.slice A7 (L ++ [t]).length c7))) (Kd.S_far HO.out (p := ⟨Bo, 0, none⟩) (fun _ hk => hk.2.2) (.slice A7 (L ++ [t]).length c7)) ?_; clear BD BO HB HO hczo hfzo; intro BD BO HB HO; generalize w7.setCell ⟨Bo, 0, none⟩ (.slice A7 (L ++ [t]).length c7) = w9 at *; have hczd0 : w9.cell? ⟨Bd, 0, none⟩ = some (.int .i64 d0) := bc0_ BD.out; have hczd1 : w9.cell? ⟨Bd, 1, none⟩ = some (.int .i64 d1) := bc1_ BD.out; have hczd2 : w9.cell? ⟨Bd, 2, none⟩ = some (.int .u64 d2) := bc2_ BD.out) | ((with_reducible refine gate_callee (f := 10) rfl ?_); refine gl_ (some 28) Tryd.func10 #[.agg #[.int .i64 d0, .int .i64 d1, .int .u64 d2]] ?_; (with_reducible refine (fold_Next.calls k d0 d1 d2 n0 n1 n2 0 _ ?side1 A2.out).mono ?_); (case side1 => exact fU_ HG.out HB.out); rintro e w10 ⟨rfl, hb⟩; refine ⟨_, rfl, ?_⟩; refine nx4_ (bk_ BD.out hb) (bk_ BO.out hb) (below_step (bU_ HB.out) hb) (Kd.S_below HO.out hb) ?_; clear BD BO HB HO hczd0 hczd1 hczd2; intro BD BO HB HO; clear hb; have hczd0 : w10.cell? ⟨Bd, 0, none⟩ = some (.int .i64 d0) := bc0_ BD.out; have hczd1 : w10.cell? ⟨Bd, 1, none⟩ = some (.int .i64 d1) := bc1_ BD.out; have hczd2 : w10.cell? ⟨Bd, 2, none⟩ = some (.int .u64 d2) := bc2_ BD.out; have hfzd0 := blk_frozen BD.out 0; have hfzd1 := blk_frozen BD.out 1; have hfzd2 := blk_frozen BD.out 2))
 go_ret

 refine ⟨rfl, ?_⟩
 exact ⟨blk_put (cs := #[.int .i64 n0, .int .i64 n1, .int .u64 d2]) (blk_put (cs := #[.int .i64 n0, .int .i64 d1, .int .u64 d2]) (blk_put (cs := #[.int .i64 d0, .int .i64 d1, .int .u64 d2]) BD.out 0 _ rfl) 1 _ rfl) 2 _ rfl, .slice A7 (L ++ [t]).length c7, blk_far (blk_far (blk_far BO.out (p := ⟨Bd, 0, none⟩) (Ne.symm NE.out) _) (p := ⟨Bd, 1, none⟩) (Ne.symm NE.out) _) (p := ⟨Bd, 2, none⟩) (Ne.symm NE.out) _, Kd.S_far (p := ⟨Bd, 2, none⟩) (Kd.S_far (p := ⟨Bd, 1, none⟩) (Kd.S_far (p := ⟨Bd, 0, none⟩) HO.out (fun _ hk => hk.2.1) _) (fun _ hk => hk.2.1) _) (fun _ hk => hk.2.1) _, below_set (below_set (below_set HB.out GD.out) GD.out) GD.out⟩

def fold_Words0.l0 : Nat → List Int → List Int → Int → Int → Int → Int → Int → Option ((List (List Int)) × Int)
 | 0, _, _, _, _, _, _, _ => none
 | k + 1, x8, x31, x32, x33, x336000, x336001, x336002 => if x33 < x32 then (if 0 ≤ x33 then (if x33 < (x31.length : Int) then ((field_Reduce.f x336000 (rd x31 x33)).bind fun t342 => (if x33 < (x8.length : Int) then (fold_Words0.l0 k (x8.set (x33 : Int).toNat t342) x31 x32 (wrap64 (x33 + 1)) x336000 x336001 x336002) else (none))) else (none)) else (none)) else (some ((([x8] : List (List Int))), 0))
def fold_Words0.f (k : Nat) (a0_0 : Int) (a0_1 : Int) (a0_2 : Int) (l1 : List Int) (l2 : List Int) : Option ((List (List Int)) × Int) := (fold_isWord.f a0_0 a0_1 a0_2 l1).bind fun t336 => (if t336 = true then ((fold_Rounds.f a0_1).bind fun t337 => (if (l2.length : Int) > t337 then (some (([] : List (List Int)), 2)) else (if 0 ≤ (l1.length : Int) then (if ((l1.length : Int) : Int).toNat ≤ 35184372088832 then (fold_Words0.l0 k (List.replicate ((l1.length : Int) : Int).toNat 0) l1 (l1.length : Int) 0 a0_0 a0_1 a0_2) else (none)) else (none)))) else (some (([] : List (List Int)), 1)))
def fold_Words.l1 : Nat → List Int → List (List Int) → Nat → Int → Int → Int → Option (List (List Int) × Int)
 | 0, _, _, _, _, _, _ => none
 | k + 1, zs, L, j, d0, d1, d2 => if j < zs.length then (fold_Words_1.f k d0 d1 d2 L (rd zs (j : Int))).bind fun q => fold_Words.l1 k zs q.1 (j + 1) q.2.1 q.2.2.1 q.2.2.2 else some (L, 0)
def fold_Words.f (k : Nat) (a0_0 : Int) (a0_1 : Int) (a0_2 : Int) (l1 : List Int) (l2 : List Int) : Option (List (List Int) × Int) := (fold_Words0.f k a0_0 a0_1 a0_2 l1 l2).bind fun q => if q.2 = 0 then fold_Words.l1 k l2 q.1 0 a0_0 a0_1 a0_2 else some q
set_option maxHeartbeats 8000000 in
set_option maxRecDepth 100000 in
theorem fold_Words.callsS (k : Nat) (a0_0 : Int) (a0_1 : Int) (a0_2 : Int) (A1 : Option Addr) (c1 : Nat) (l1 : List Int) (A2 : Option Addr) (c2 : Nat) (l2 : List Int) (r1 : List (List Int)) (r2 : Int) (w : World) (hG : Fld w) (hr1 : Kd.C (Kd.int .u64) w A1 l1.length l1) (hc1 : l1.length ≤ c1) (hr2 : Kd.C (Kd.int .u64) w A2 l2.length l2) (hc2 : l2.length ≤ c2) (h : fold_Words.f k a0_0 a0_1 a0_2 l1 l2 = some (r1, r2)) :
  Calls Tryd.prog 27 #[.agg #[.int .i64 a0_0, .int .i64 a0_1, .int .u64 a0_2], .slice A1 l1.length c1, .slice A2 l2.length c2] w fun e w' => ∃ v0_ : Value, e = .returned (.tuple #[v0_, .int .i64 r2]) ∧ Kd.S (Kd.slice 22 (Kd.int .u64)) 33 w' w.heap.size (fun k_ => (w.heap.size ≤ k_)) v0_ r1 ∧ Below w.heap.size w w' := by
 have hu24 := Tryd.underlying24
 have HG := ak hG
 clear hG
 have HR1 := ak hr1
 have HC1 := ak hc1
 clear hr1 hc1
 have HR2 := ak hr2
 have HC2 := ak hc2
 clear hr2 hc2
 have HB := ak (Below.refl w.heap.size w)
 unfold fold_Words.f at h
 obtain ⟨⟨q1, q2⟩, h, hQ⟩ := Option.bind_eq_some_iff.mp h
 have HQ := ak hQ
 clear hQ
 dsimp only at HQ
 have hmf : ∀ (fn : Fn) (first cap : Array Value) (w : World), (Instr.makeFunc fn first cap).run Tryd.prog w = .ok (.func fn first cap) w := fun _ _ _ _ => rfl
 have H := h
 clear h
 unfold fold_Words_1.f at H
 revert H
 refine bd_ fun t336 A4 H => ?_
 by_cases c5 : t336 = true
 ·subst c5
  rw [if_pos rfl] at H
  revert H
  refine bd_ fun t337 A6 H => ?_
  by_cases c7 : (l2.length : Int) > t337
  ·rw [if_pos c7] at H
   have c7b0 : decide (t337 < (l2.length : Int)) = true := decide_eq_true c7
   clear c7
   simp only [Option.some.injEq, Prod.mk.injEq] at H
   obtain ⟨rfl, rfl⟩ := H
   have hq_ := HQ.out
   rw [if_neg (by decide)] at hq_
   simp only [Option.some.injEq, Prod.mk.injEq] at hq_
   obtain ⟨rfl, rfl⟩ := hq_
   go_enter Tryd.func27, Tryd.ntmps27
   go_wp2_with (first | ((with_reducible refine gate_dst (N := 3) rfl ?_); refine bx_ 3 24 #[.int .i64 a0_0, .int .i64 a0_1, .int .u64 a0_2] ?_; intro gb335 hg w8 hbox hb; refine nx4_ (below_step (bU_ HB.out) hb) (hbox) ((hs_ hg (below_size (bU_ HB.out)))) ((hs_ hg (below_size (bU_ HB.out)))) ?_; clear HB; intro HB BK335 GW335 GE335; clear hb hbox hg; have hcz9_0 := bc0_ BK335.out; have hcz9_1 := bc1_ BK335.out; have hcz9_2 := bc2_ BK335.out; have hfz9_0 := blk_frozen BK335.out 0; have hfz9_1 := blk_frozen BK335.out 1; have hfz9_2 := blk_frozen BK335.out 2) | ((with_reducible refine gate_callee (f := 53) rfl ?_); refine gl_ (some 19) Tryd.func53 #[.agg #[.int .i64 a0_0, .int .i64 a0_1, .int .u64 a0_2], .slice A1 l1.length c1] ?_; (with_reducible refine (fold_isWord.calls a0_0 a0_1 a0_2 _ _ l1 true _ ?side1 ?side2 ?side3 A4.out).mono ?_); (case side1 => repeat (first | with_reducible exact HG.out | with_reducible exact (Fld.below HG.out HB.out) | exact (Fld.below HG.out sU_) | (with_reducible refine Fld.alloc ?_ _) | (with_reducible refine Fld.drewN ?_ _) | (with_reducible refine Fld.drew ?_))); (case side2 => exact cU_ (C_below HR1.out HB.out)); (case side3 => exact HC1.out); rintro e w10 ⟨rfl, hb⟩; refine ⟨_, rfl, ?_⟩; refine nx2_ (blk_below (kU_ BK335.out) hb) (below_step sU_ hb) ?_; clear BK335 HB; intro BK335 HB; clear hb; have hcz11_0 := bc0_ BK335.out; have hcz11_1 := bc1_ BK335.out; have hcz11_2 := bc2_ BK335.out; have hfz11_0 := blk_frozen BK335.out 0; have hfz11_1 := blk_frozen BK335.out 1; have hfz11_2 := blk_frozen BK335.out 2) | ((with_reducible refine gate_callee (f := 12) rfl ?_); refine gl_ (some 26) Tryd.func12 #[.int .i64 a0_1] ?_; (with_reducible refine (fold_Rounds.calls a0_1 t337 _ A6.out).mono ?_); rintro e w12 ⟨rfl, hb⟩; refine ⟨_, rfl, ?_⟩; refine nx2_ (blk_below (kU_ BK335.out) hb) (below_step sU_ hb) ?_; clear BK335 HB; intro BK335 HB; clear hb))
   go_ret2
   exact ⟨_, eW_, by first | exact Kd.S_nil _ _ _ _ _ | exact Kd.S_nil _ _ _ _ _ | exact Kd.V_nil _ _ _ _ _ | exact Kd.Q_nil _ _ _ _ _ | exact Kd.R_nil _ _ _ _ _, sU_⟩
  rw [if_neg c7] at H
  have c7b0 : decide (t337 < (l2.length : Int)) = false := decide_eq_false c7
  clear c7
  obtain ⟨c13, H⟩ : (0 ≤ (l1.length : Int)) ∧ _ := it_ H
  have c13b0 := eq_true c13
  have c13b1 := decide_eq_true c13
  clear c13
  obtain ⟨c14, H⟩ : (((l1.length : Int) : Int).toNat ≤ 35184372088832) ∧ _ := it_ H
  have c14b0 := eq_true c14
  have c14b1 := decide_eq_true c14
  clear c14
  obtain ⟨y338, hy338⟩ : ∃ y_ : List Int, y_ = (List.replicate ((l1.length : Int) : Int).toNat 0) := ⟨_, rfl⟩
  first | rw [Option.bind_some, ← hy338] at H | rw [← hy338] at H
  have Ny338 := ak hy338
  clear hy338
  have H' := ak H
  clear H
  go_enter Tryd.func27, Tryd.ntmps27
  go_wp2_with (first | ((with_reducible refine gate_dst (N := 3) rfl ?_); refine bx_ 3 24 #[.int .i64 a0_0, .int .i64 a0_1, .int .u64 a0_2] ?_; intro gb335 hg w15 hbox hb; refine nx4_ (below_step (bU_ HB.out) hb) (hbox) ((hs_ hg (below_size (bU_ HB.out)))) ((hs_ hg (below_size (bU_ HB.out)))) ?_; clear HB; intro HB BK335 GW335 GE335; clear hb hbox hg; have hcz16_0 := bc0_ BK335.out; have hcz16_1 := bc1_ BK335.out; have hcz16_2 := bc2_ BK335.out; have hfz16_0 := blk_frozen BK335.out 0; have hfz16_1 := blk_frozen BK335.out 1; have hfz16_2 := blk_frozen BK335.out 2) | ((with_reducible refine gate_callee (f := 53) rfl ?_); refine gl_ (some 19) Tryd.func53 #[.agg #[.int .i64 a0_0, .int .i64 a0_1, .int .u64 a0_2], .slice A1 l1.length c1] ?_; (with_reducible refine (fold_isWord.calls a0_0 a0_1 a0_2 _ _ l1 true _ ?side1 ?side2 ?side3 A4.out).mono ?_); (case side1 => repeat (first | with_reducible exact HG.out | with_reducible exact (Fld.below HG.out HB.out) | exact (Fld.below HG.out sU_) | (with_reducible refine Fld.alloc ?_ _) | (with_reducible refine Fld.drewN ?_ _) | (with_reducible refine Fld.drew ?_))); (case side2 => exact cU_ (C_below HR1.out HB.out)); (case side3 => exact HC1.out); rintro e w17 ⟨rfl, hb⟩; refine ⟨_, rfl, ?_⟩; refine nx2_ (blk_below (kU_ BK335.out) hb) (below_step sU_ hb) ?_; clear BK335 HB; intro BK335 HB; clear hb; have hcz18_0 := bc0_ BK335.out; have hcz18_1 := bc1_ BK335.out; have hcz18_2 := bc2_ BK335.out; have hfz18_0 := blk_frozen BK335.out 0; have hfz18_1 := blk_frozen BK335.out 1; have hfz18_2 := blk_frozen BK335.out 2) | ((with_reducible refine gate_callee (f := 12) rfl ?_); refine gl_ (some 26) Tryd.func12 #[.int .i64 a0_1] ?_; (with_reducible refine (fold_Rounds.calls a0_1 t337 _ A6.out).mono ?_); rintro e w19 ⟨rfl, hb⟩; refine ⟨_, rfl, ?_⟩; refine nx2_ (blk_below (kU_ BK335.out) hb) (below_step sU_ hb) ?_; clear BK335 HB; intro BK335 HB; clear hb) | ((with_reducible refine gate_dst (N := 30) rfl ?_); refine R_make (Kd.int .u64) _ 22 rfl (N := 30) rfl 33 _ _ rfl (l1.length : Int) ?hx ?hy Tryd.underlying33 (.int .u64 0) 8 info22 rfl (by decide) (by omega) 0 (ok := fun _ => True) (okp := fun _ => True) rfl (fun _ hk => hk) trivial od_ (Nat.le_trans (Nat.mul_le_mul_right _ (od_ : (l1.length : Int).toNat ≤ 35184372088832)) (by omega)) (Below.refl _ _) (Nat.le_refl _) ?_; (case hx => first | rfl); (case hy => first | rfl); intro v339 w20 ho21 hb hg_ hnew_; clear hg_ hnew_; (first | rw [← Ny338.out] at ho21 | (simp only [Int.reduceToNat] at ho21; rw [← Ny338.out] at ho21)); refine nx3_ (R_lower (R_newM (M := fun k_ => (w.heap.size ≤ k_)) ho21 (below_size sU_) (fun k_ h_ => h_)) (below_size sU_)) (blk_below (kU_ BK335.out) hb) (below_step sU_ hb) ?_; clear BK335 HB; intro HO340 BK335 HB; clear hb ho21))
  go_loopg [33] k (fun kq v33 w' => ∃ (x8_1 : List Int) (x33_1 : Int), v33 = .int .i64 x33_1 ∧ Aside0 (fold_Words0.l0 kq x8_1 l1 (l1.length : Int) x33_1 a0_0 a0_1 a0_2 = some (q1, q2)) ∧ Aside0 (kq ≤ k) ∧ Aside0 (Kd.R (Kd.int .u64) 22 w' w.heap.size (fun k_ => (w.heap.size ≤ k_)) v339 x8_1) ∧ Aside0 (w'.heap[gb335]? = some (.cells #[.int .i64 a0_0, .int .i64 a0_1, .int .u64 a0_2] 24 (0, 0))) ∧ Aside0 (Below w.heap.size w w'))
  case atStart => exact ⟨(y338), (0), gb_, H', ⟨Nat.le_refl _⟩, ⟨R_mono (rU_ HO340.out) (fun _ hk => hk.1)⟩, ⟨by (with_reducible repeat (first | refine blk_drewN ?_ _ | refine blk_drew ?_ | refine blk_alloc ?_ _)); exact BK335.out⟩, ⟨sU_⟩⟩
  case round =>
   clear H'
   (try clear c1); (try clear c2); (try clear p2); (try clear c5); (try clear c7); (try clear c7b0); (try clear c12); (try clear c13); (try clear c13b0); (try clear c13b1); (try clear c14); (try clear c14b0); (try clear c14b1); (try clear hcz11_0); (try clear hcz11_1); (try clear hcz11_2); (try clear hcz16_0); (try clear hcz16_1); (try clear hcz16_2); (try clear hcz18_0); (try clear hcz18_1); (try clear hcz18_2); (try clear hcz9_0); (try clear hcz9_1); (try clear hcz9_2); (try clear hfz11_0); (try clear hfz11_1); (try clear hfz11_2); (try clear hfz16_0); (try clear hfz16_1); (try clear hfz16_2); (try clear hfz18_0); (try clear hfz18_1); (try clear hfz18_2); (try clear hfz9_0); (try clear hfz9_1); (try clear hfz9_2)
   obtain ⟨x8_1, x33_1, rfl, HA, HK1, HO_8, BK335, HB⟩ := hrel
   cases gk with
   | zero => exact absurd HA.out (by simp [fold_Words0.l0])
   | succ k1 =>
    have H := HA.out
    clear HA
    simp only [fold_Words0.l0] at H
    by_cases c22 : x33_1 < (l1.length : Int)
    ·rw [if_pos c22] at H
     have c22b0 := decide_eq_true c22
     clear c22
     obtain ⟨c23, H⟩ : (0 ≤ x33_1) ∧ _ := it_ H
     have c23b0 := decide_eq_true c23
     clear c23
     obtain ⟨c24, H⟩ : (x33_1 < (l1.length : Int)) ∧ _ := it_ H
     have c24b0 := decide_eq_true c24
     clear c24
     revert H
     refine bd_ fun t342 A25 H => ?_
     obtain ⟨c26, H⟩ : (x33_1 < (x8_1.length : Int)) ∧ _ := it_ H
     have c26b0 := decide_eq_true c26
     clear c26
     obtain ⟨y343, hy343⟩ : ∃ y_ : List Int, y_ = (x8_1.set (x33_1 : Int).toNat t342) := ⟨_, rfl⟩
     first | rw [Option.bind_some, ← hy343] at H | rw [← hy343] at H
     have Ny343 := ak hy343
     clear hy343
     have H' := ak H
     clear H
     have p341 : 0 ≤ (x33_1 : Int) := od_
     have q341 : x33_1 < (l1.length : Int) := od_
     obtain ⟨ad341, e341, hx341_0⟩ := Kd.at_int HR1.out x33_1 p341 q341
     cases e341
     replace hx341_0 := (HB.out.cell (World.block_lt_of_cell? w _ hx341_0)).trans hx341_0
     replace p341 := eq_true p341
     replace q341 := eq_true q341
     have hcz28_0 := bc0_ BK335.out
     have hcz28_1 := bc1_ BK335.out
     have hcz28_2 := bc2_ BK335.out
     have hfz28_0 := blk_frozen BK335.out 0
     have hfz28_1 := blk_frozen BK335.out 1
     have hfz28_2 := blk_frozen BK335.out 2
     go_wp2_with (first | ((with_reducible refine gate_callee (f := 22) rfl ?_); refine gl_ (some 43) Tryd.func22 #[.int .i64 a0_0, .int .u64 (rd l1 x33_1)] ?_; (with_reducible refine (field_Reduce.calls a0_0 (rd l1 x33_1) t342 _ ?side1 A25.out).mono ?_); (case side1 => repeat (first | with_reducible exact HG.out | with_reducible exact (Fld.below HG.out HB.out) | exact (Fld.below HG.out sU_) | (with_reducible refine Fld.alloc ?_ _) | (with_reducible refine Fld.drewN ?_ _) | (with_reducible refine Fld.drew ?_))); rintro e w29 ⟨rfl, hb⟩; refine ⟨_, rfl, ?_⟩; refine nx3_ (R_below (rU_ HO_8.out) hb) (blk_below (kU_ BK335.out) hb) (below_step sU_ hb) ?_; clear HO_8 BK335 HB; intro HO_8 BK335 HB; clear hb; have p27 : 0 ≤ (x33_1 : Int) := od_; have q27 : (x33_1 : Int) < ((x8_1.length : Int) : Int) := od_; obtain ⟨go27, co27, eo27, gb27, gl27, cl27, HG27⟩ := Kd.R_form HO_8.out (by omega); (first | cases eo27 | (injection eo27 with ea_ en_ ec_; (first | subst ea_ | (injection ea_ with ea_; subst ea_)); subst ec_; clear en_)); have GB27 := ak gb27; have GG27 := ak HG27; clear gb27 gl27 HG27; obtain ⟨hx27_0, hf27_0⟩ := Kd.R_celln 0 HO_8.out (x33_1 : Int) p27 q27; replace p27 := eq_true p27; replace q27 := eq_true q27; obtain ⟨hy30_, hz30_⟩ := Kd.R_celln 0 HO_8.out (x33_1 : Int) od_ od_; have HP30 := Kd.R_putg HO_8.out (x33_1 : Int) t342) | ((with_reducible refine gate_store (t := 22) (p := 44) rfl ?_); refine store_event (t := 22) (p := 44) (v := ?vo_w31) (w1 := (w29.setCell ⟨go27, (x33_1 : Int).toNat, none⟩ (.int .u64 t342))) ?hg ?ho ?hn ?hr ?_; (case ho => rfl); (case hg => rfl); (case hn => rfl); (case hr => first | (go_simp; done) | (go_simp; rfl)); intro w31 hw; have hg : w29.grownBy w31 (some go27) := (by rw [hw]; exact HP30.2); have hp_ : Kd.R (Kd.int .u64) 22 w31 w.heap.size (fun k_ => (w.heap.size ≤ k_)) (.slice (some ⟨go27, 0, none⟩) x8_1.length co27) y343 := (by rw [hw, Ny343.out]; exact HP30.1); clear HP30; refine nx3_ (hp_) (blk_grown (g := gb335) (o := .cells #[.int .i64 a0_0, .int .i64 a0_1, .int .u64 a0_2] 24 (0, 0)) (kU_ BK335.out) hg (Kd.R_ne HO_8.out BK335.out (by decide))) ((by rw [hw]; exact below_set (HB.out) GB27.out : Below w.heap.size w w31)) ?_; clear HO_8 BK335 HB; intro HO_8 BK335 HB; clear hg hw hp_))
     go_roundg k1
     case measure => have := HK1.out; omega
     case rel => exact ⟨(y343), (wrap64 (x33_1 + 1)), gb_, H', ⟨by have := HK1.out; omega⟩, ⟨rU_ HO_8.out⟩, ⟨by (with_reducible repeat (first | refine blk_drewN ?_ _ | refine blk_drew ?_ | refine blk_alloc ?_ _)); exact BK335.out⟩, ⟨sU_⟩⟩
    rw [if_neg c22] at H
    have c22b0 := decide_eq_false c22
    clear c22
    obtain ⟨y344, hy344⟩ : ∃ y_ : List (List Int), y_ = (([x8_1] : List (List Int))) := ⟨_, rfl⟩
    replace H : (some (y344, 0)) = some (q1, q2) := by first | (rw [hy344]; with_reducible exact H) | (have H2_ := (Option.bind_some _ _).symm.trans H; rw [hy344]; with_reducible exact H2_) | (have H2_ := (Option.bind_some _ _).symm.trans H; with_reducible exact H2_) | with_reducible exact H | (rw [hy344]; exact H) | exact H
    have Ny344 := ak hy344
    clear hy344
    simp only [Option.some.injEq, Prod.mk.injEq] at H
    obtain ⟨rfl, rfl⟩ := H
    obtain ⟨Ao32, co32, eo32⟩ := R_slice HO_8.out
    subst eo32
    go_wp2_with (first | ((with_reducible refine gate_dst (N := 47) rfl ?_); refine R_lit (w0 := w) (Kd.slice 22 (Kd.int .u64)) w.heap.size 33 ?hg (N := 47) ?hd (xs := ([x8_1] : List (List Int))) (inner := [.slice Ao32 x8_1.length co32]) (ok := (fun k_ => (w.heap.size ≤ k_) ∧ k_ ≠ gb335)) (okp := (fun k_ => (w.heap.size ≤ k_) ∧ k_ ≠ gb335)) ?hr ?hp (fun _ hk => hk) ((show ∀ k_, wr.heap.size ≤ k_ → (fun k_ => (w.heap.size ≤ k_) ∧ k_ ≠ gb335) k_ from fun k_ hk => ⟨(Nat.le_trans (below_size sU_) hk), freshB (kU_ BK335.out) k_ hk⟩) _ (Nat.le_refl _)) sU_ (below_size sU_) (by simp) ?_; (case hd => rfl); (case hg => rfl); (case hr => first | (go_simp; done) | (go_simp; rfl)); (case hp => exact (Reps.one (show Kd.M (Kd.slice 22 (Kd.int .u64)) _ _ _ x8_1 [.slice Ao32 x8_1.length co32] from ⟨_, rfl, R_mono (R_types (HO_8.out) BK335.out (by decide)) (fun k_ hk => ⟨hk.1, hk.2⟩)⟩) (Reps.none _ _))); intro v345 w33 ho34 hb hg_ hnew_; clear hnew_; replace ho34 := S_of_one ho34; (first | rw [← Ny344.out] at ho34 | (simp only [Int.reduceToNat] at ho34; rw [← Ny344.out] at ho34)); have n0_ := ak ho34; have n1_ := ak (blk_grown (g := gb335) (o := .cells #[.int .i64 a0_0, .int .i64 a0_1, .int .u64 a0_2] 24 (0, 0)) (kU_ BK335.out) hg_ (by simp)); have n2_ := ak hb; clear hg_; clear BK335; clear HB; clear HO_8; have HO346 := n0_; have BK335 := n1_; have HB := n2_; clear n0_ n1_ n2_; clear hb ho34) | ((with_reducible refine gate_dst (N := 11) rfl ?_); refine bx_ 11 46 #[.slice none 0 0] ?_; intro gbo hg w90 hbox hb; have n0_ := ak (Kd.S_below (Kd.S_elderB HO346.out gbo (Nat.le_of_eq hg.symm)) hb); have n1_ := ak (blk_below BK335.out hb); have n2_ := ak (below_step HB.out hb); have BO := ak hbox; have GO := ak (show w.heap.size ≤ gbo by rw [hg]; exact below_size HB.out); have NE := ak (show gb335 ≠ gbo by rw [hg]; exact Nat.ne_of_lt (blk_lt BK335.out)); clear HO346 BK335 HB hbox hb hg; have HO346 := n0_; have BK335 := n1_; have HB := n2_; clear n0_ n1_ n2_; obtain ⟨A5, c5, e5⟩ := Kd.S_slice HO346.out; subst e5; have hczo := bc0_ BO.out; have hfzo := blk_frozen BO.out 0) | ((with_reducible refine gate_store (t := 46) (p := 11) rfl ?_); refine store_event (t := 46) (p := 11) (v := ?vo_w8) (w1 := (w90.setCell ⟨gbo, 0, none⟩ (.slice A5 y344.length c5))) ?hg ?ho ?hn ?hr ?_; (case ho => rfl); (case hg => rfl); (case hn => rfl); (case hr => first | (go_simp; done) | (go_simp; rfl)); intro w8 hw; subst hw; have n0_ := ak (blk_far BK335.out (p := ⟨gbo, 0, none⟩) NE.out (.slice A5 y344.length c5)); have n1_ := ak (wset_ (.slice A5 y344.length c5) BO.out); have n2_ := ak (below_set HB.out GO.out : Below w.heap.size w (w90.setCell ⟨gbo, 0, none⟩ (.slice A5 y344.length c5))); have n3_ := ak (Kd.S_far HO346.out (p := ⟨gbo, 0, none⟩) (fun _ hk => hk.2) (.slice A5 y344.length c5)); clear BK335 BO HB HO346 hczo hfzo; have BK335 := n0_; have BO := n1_; have HB := n2_; have HO := n3_; clear n0_ n1_ n2_ n3_; generalize w90.setCell ⟨gbo, 0, none⟩ (.slice A5 y344.length c5) = w91 at *))
    have H' := HQ.out
    first | rw [if_pos rfl] at H' | rw [if_pos True.intro] at H'
    have HQ' := ak H'
    clear H' HQ
    go_loopg [51] k (fun kq v51 w' => ∃ (j : Nat) (L : List (List Int)) (e0 e1 e2 : Int) (vo : Value), v51 = .int .i64 (j : Int) ∧ Aside0 (fold_Words.l1 kq l2 L j e0 e1 e2 = some (r1, r2)) ∧ Aside0 (kq ≤ k) ∧ Aside0 (w'.heap[gb335]? = some (.cells #[.int .i64 e0, .int .i64 e1, .int .u64 e2] 24 (0, 0))) ∧ Aside0 (w'.heap[gbo]? = some (.cells #[vo] 46 (0, 0))) ∧ Aside0 (Kd.S (Kd.slice 22 (Kd.int .u64)) 33 w' w.heap.size (fun k_ => (w.heap.size ≤ k_) ∧ k_ ≠ gb335 ∧ k_ ≠ gbo) vo L) ∧ Aside0 (Below w.heap.size w w'))
    case atStart => exact ⟨0, _, _, _, _, _, rfl, HQ', ⟨Nat.le_refl _⟩, BK335, BO, ⟨Kd.S_mono HO.out (fun _ hk => ⟨hk.1.1, hk.1.2, hk.2⟩)⟩, HB⟩
    case round =>
     clear HQ' BK335 BO HO HB
     obtain ⟨j, L, e0, e1, e2, vo, rfl, HA, HK2, BK335, BO, HO, HB⟩ := hrel
     cases gk with
     | zero => exact absurd HA.out (by simp [fold_Words.l1])
     | succ k2 =>
      have H := HA.out
      clear HA
      rw [fold_Words.l1] at H
      by_cases cj : j < l2.length
      ·rw [if_pos cj] at H
       obtain ⟨⟨L2, f0, f1, f2⟩, hq, H⟩ := Option.bind_eq_some_iff.mp H
       have AQ := ak hq
       have HX := ak H
       clear hq H
       have cjb : decide ((j : Int) < (l2.length : Int)) = true := decide_eq_true (by omega)
       obtain ⟨adz, eaz, hxz⟩ := Kd.at_int HR2.out (j : Int) (Int.natCast_nonneg _) (Int.ofNat_lt.2 cj)
       cases eaz
       rw [Int.toNat_natCast] at hxz
       replace hxz := (HB.out.cell (World.block_lt_of_cell? w _ hxz)).trans hxz
       go_wp2_with (first | ((with_reducible refine gate_dst (N := 57) rfl ?_); refine hold_ ?_))
       refine ⟨?_⟩
       refine gclo_ (some 57) rfl rfl Tryd.func59 (by kernel_rfl) rfl #[.int .u64 (rd l2 (j : Int)), .pointer (some ⟨gb335, 0, none⟩), .pointer (some ⟨gbo, 0, none⟩)] rfl rfl (by simp only [List.map_toArray, List.map_cons, List.map_nil, List.append_toArray, List.cons_append, List.nil_append]; rfl) ?_
       refine (fold_Words_1.calls k2 (rd l2 (j : Int)) gb335 gbo vo L L2 e0 e1 e2 f0 f1 f2 w _ HG.out HB.out GW335.out GO.out NE.out BK335.out BO.out HO.out AQ.out).mono ?_
       rintro e w7 ⟨v1, rfl, hbd, hbo, hn, hb⟩
       refine ⟨_, rfl, ?_⟩
       clear BK335 BO HO HB hxz
       have BK335 := ak hbd
       have BO := ak hbo
       have HO := ak hn
       have HB := ak hb
       clear hbd hbo hn hb
       go_wp2
       go_roundg k2
       case measure => have := HK2.out; omega
       case rel => exact ⟨j + 1, L2, f0, f1, f2, v1, (by have h9_ := HR2.out.2.1; have e_ : wrap64 ((j : Int) + 1) = ((j + 1 : Nat) : Int) := (by unfold wrap64; omega); first | rw [e_] | (simp [e_]; done)), HX, ⟨by have := HK2.out; omega⟩, BK335, BO, HO, HB⟩
      rw [if_neg cj] at H
      simp only [Option.some.injEq, Prod.mk.injEq] at H
      obtain ⟨rfl, rfl⟩ := H
      have cjb : decide ((j : Int) < (l2.length : Int)) = false := decide_eq_false (by omega)
      obtain ⟨A9, c9, e9⟩ := Kd.S_slice HO.out
      subst e9
      have hczo := bc0_ BO.out
      go_wp2
      go_ret2
      exact ⟨_, rfl, Kd.S_mono HO.out (fun _ hk => hk.1), HB.out⟩
 replace c5 := Bool.eq_false_iff.mpr c5
 subst c5
 rw [if_neg (show ¬ (false = true) by decide)] at H
 simp only [Option.some.injEq, Prod.mk.injEq] at H
 obtain ⟨rfl, rfl⟩ := H
 have hq_ := HQ.out
 rw [if_neg (by decide)] at hq_
 simp only [Option.some.injEq, Prod.mk.injEq] at hq_
 obtain ⟨rfl, rfl⟩ := hq_
 go_enter Tryd.func27, Tryd.ntmps27
 go_wp2_with (first | ((with_reducible refine gate_dst (N := 3) rfl ?_); refine bx_ 3 24 #[.int .i64 a0_0, .int .i64 a0_1, .int .u64 a0_2] ?_; intro gb335 hg w35 hbox hb; refine nx4_ (below_step (bU_ HB.out) hb) (hbox) ((hs_ hg (below_size (bU_ HB.out)))) ((hs_ hg (below_size (bU_ HB.out)))) ?_; clear HB; intro HB BK335 GW335 GE335; clear hb hbox hg; have hcz36_0 := bc0_ BK335.out; have hcz36_1 := bc1_ BK335.out; have hcz36_2 := bc2_ BK335.out; have hfz36_0 := blk_frozen BK335.out 0; have hfz36_1 := blk_frozen BK335.out 1; have hfz36_2 := blk_frozen BK335.out 2) | ((with_reducible refine gate_callee (f := 53) rfl ?_); refine gl_ (some 19) Tryd.func53 #[.agg #[.int .i64 a0_0, .int .i64 a0_1, .int .u64 a0_2], .slice A1 l1.length c1] ?_; (with_reducible refine (fold_isWord.calls a0_0 a0_1 a0_2 _ _ l1 false _ ?side1 ?side2 ?side3 A4.out).mono ?_); (case side1 => repeat (first | with_reducible exact HG.out | with_reducible exact (Fld.below HG.out HB.out) | exact (Fld.below HG.out sU_) | (with_reducible refine Fld.alloc ?_ _) | (with_reducible refine Fld.drewN ?_ _) | (with_reducible refine Fld.drew ?_))); (case side2 => exact cU_ (C_below HR1.out HB.out)); (case side3 => exact HC1.out); rintro e w37 ⟨rfl, hb⟩; refine ⟨_, rfl, ?_⟩; refine nx2_ (blk_below (kU_ BK335.out) hb) (below_step sU_ hb) ?_; clear BK335 HB; intro BK335 HB; clear hb))
 go_ret2
 exact ⟨_, eW_, by first | exact Kd.S_nil _ _ _ _ _ | exact Kd.S_nil _ _ _ _ _ | exact Kd.V_nil _ _ _ _ _ | exact Kd.Q_nil _ _ _ _ _ | exact Kd.R_nil _ _ _ _ _, sU_⟩
theorem fold_Words.calls (k : Nat) (a0_0 : Int) (a0_1 : Int) (a0_2 : Int) (A1 : Option Addr) (c1 : Nat) (l1 : List Int) (A2 : Option Addr) (c2 : Nat) (l2 : List Int) (r1 : List (List Int)) (r2 : Int) (w : World) (hG : Fld w) (hr1 : Kd.C (Kd.int .u64) w A1 l1.length l1) (hc1 : l1.length ≤ c1) (hr2 : Kd.C (Kd.int .u64) w A2 l2.length l2) (hc2 : l2.length ≤ c2) (h : fold_Words.f k a0_0 a0_1 a0_2 l1 l2 = some (r1, r2)) :
  Calls Tryd.prog 27 #[.agg #[.int .i64 a0_0, .int .i64 a0_1, .int .u64 a0_2], .slice A1 l1.length c1, .slice A2 l2.length c2] w fun e w' => ∃ v0_ : Value, e = .returned (.tuple #[v0_, .int .i64 r2]) ∧ Kd.S (Kd.slice 22 (Kd.int .u64)) 33 w' w.heap.size (fun _ => True) v0_ r1 ∧ Below w.heap.size w w' := by
 refine (fold_Words.callsS k a0_0 a0_1 a0_2 A1 c1 l1 A2 c2 l2 r1 r2 w hG hr1 hc1 hr2 hc2 h).mono ?_
 rintro e w' ⟨v0, he, h1, h2⟩
 exact ⟨v0, he, Kd.S_mono h1 (fun _ _ => trivial), h2⟩

def fold_Leaf.l0 : Nat → Int → List Int → Int → Nat → List Int → Nat → Option (List Int)
 | 0, _, _, _, _, _, _ => none
 | k + 1, d0, l, i, n, x, j => if j < 8 then if 0 ≤ wrap64 (i + wrap64 ((j : Int) * (n : Int))) ∧ wrap64 (i + wrap64 ((j : Int) * (n : Int))) < (l.length : Int) then (field_Reduce.f d0 (rd l (wrap64 (i + wrap64 ((j : Int) * (n : Int)))))).bind fun y => fold_Leaf.l0 k d0 l i n (x.set j y) (j + 1) else none else some x
def fold_Leaf.f (k : Nat) (d0 d1 d2 : Int) (l : List Int) (i : Int) : Option (List Int) := (fold_isWord.f d0 d1 d2 l).bind fun b => if b = true then if i < 0 then some (List.replicate 8 0) else if i ≥ (l.length : Int) / 8 then some (List.replicate 8 0) else fold_Leaf.l0 k d0 l i (l.length / 8) (List.replicate 8 0) 0 else some (List.replicate 8 0)
set_option maxHeartbeats 8000000 in
set_option maxRecDepth 100000 in
theorem fold_Leaf.calls8 (k : Nat) (a0_0 a0_1 a0_2 : Int) (A1 : Option Addr) (c1 : Nat) (l1 : List Int) (a2 : Int) (r : List Int) (w : World) (hG : Fld w) (hr1 : Kd.C (Kd.int .u64) w A1 l1.length l1) (hc1 : l1.length ≤ c1) (h : fold_Leaf.f k a0_0 a0_1 a0_2 l1 a2 = some r) :
  Calls Tryd.prog 29 #[.agg #[.int .i64 a0_0, .int .i64 a0_1, .int .u64 a0_2], .slice A1 l1.length c1, .int .i64 a2] w fun e w' => e = .returned (arW .u64 r) ∧ r.length = 8 ∧ Below w.heap.size w w' := by
 have hu := Tryd.underlying24
 have hlen := hr1.2.1
 have HG := ak hG
 have HR1 := ak hr1
 have HC1 := ak hc1
 clear hG hr1 hc1
 have HB := ak (Below.refl w.heap.size w)
 unfold fold_Leaf.f at h
 obtain ⟨b, hw, h⟩ := Option.bind_eq_some_iff.mp h
 have HW := ak hw
 clear hw
 by_cases q0 : b = true
 ·subst q0
  rw [if_pos rfl] at h
  by_cases q1 : a2 < 0
  ·rw [if_pos q1] at h
   obtain rfl := Option.some.inj h
   clear h
   have c1b : decide (a2 < 0) = true := decide_eq_true q1
   go_enter Tryd.func29, Tryd.ntmps29
   go_wp2_with (first | ((with_reducible refine gate_dst (N := 3) rfl ?_); (try (refine gate_guard (by rfl) ?_; dsimp only)); refine bx_ 3 24 #[.int .i64 a0_0, .int .i64 a0_1, .int .u64 a0_2] ?_; intro gb hg w1 hbox hb; refine nx3_ (below_step (bU_ HB.out) hb) hbox ((hs_ hg (below_size (bU_ HB.out)))) ?_; clear HB; intro HB BK GW; clear hb hbox hg) | ((with_reducible refine gate_dst (N := 6) rfl ?_); refine hold_ ?_))
   refine ⟨?_⟩
   refine ev_alloc_ (some 6) 25 8 rfl rfl rfl zA8.1 ?_
   intro B w2 hB hA hb
   have hne := ak (show gb ≠ B by have := bk_lt BK.out; omega)
   refine nx4_ (below_step HB.out hb) (bk_ BK.out hb) hA (Nat.le_trans (below_size HB.out) hB) ?_
   clear HB BK hb hA hB
   intro HB BK HA GB
   go_wp2_with (first | ((with_reducible refine gate_dst (N := 7) rfl ?_); refine hold_ ?_))
   refine ⟨?_⟩
   refine ev_alloc_ (some 7) 25 8 rfl rfl rfl zA8.1 ?_
   intro B1 w3 hB hA1 hb
   have hne1 := ak (show gb ≠ B1 ∧ B ≠ B1 by have := bk_lt BK.out; have := HA.out.lt; omega)
   refine nx5_ (below_step HB.out hb) (bk_ BK.out hb) (HA.out.below hb) hA1 (Nat.le_trans (below_size HB.out) hB) ?_
   clear HB BK HA hb hA1 hB
   intro HB BK HA HA1 GB1
   have hczw3_0 := bc0_ BK.out; have hczw3_1 := bc1_ BK.out; have hczw3_2 := bc2_ BK.out; have hfzw3_0 := blk_frozen BK.out 0; have hfzw3_1 := blk_frozen BK.out 1; have hfzw3_2 := blk_frozen BK.out 2
   go_wp2_with (first | ((with_reducible refine gate_callee (f := 53) rfl ?_); refine gl_ (some 15) Tryd.func53 #[.agg #[.int .i64 a0_0, .int .i64 a0_1, .int .u64 a0_2], .slice A1 l1.length c1] ?_; refine hold_ ?_))
   refine ⟨?_⟩
   refine (fold_isWord.calls a0_0 a0_1 a0_2 A1 c1 l1 true _ (fU_ HG.out HB.out) (C_below HR1.out HB.out) HC1.out HW.out).mono ?_
   rintro e w4 ⟨rfl, hb⟩
   refine ⟨_, rfl, ?_⟩
   clear hczw3_0 hfzw3_0 hczw3_1 hfzw3_1 hczw3_2 hfzw3_2
   refine nx4_ (below_step (bU_ HB.out) hb) (bk_ BK.out hb) (HA.out.below hb) (HA1.out.below hb) ?_
   clear HB BK HA HA1 hb
   intro HB BK HA HA1
   go_wp2_with ((with_reducible refine gate_dst (N := 26) rfl ?_); refine hold_ ?_)
   refine ⟨?_⟩
   refine ev_load_ (some 26) 25 (.tmp 7) B1 8 22 _ rfl rfl rfl rfl HA1.out uA8 zA8.2 ?_
   go_wp2_with ((with_reducible refine gate_store (t := 25) (p := 6) rfl ?_); refine hold_ ?_)
   refine ⟨?_⟩
   refine ev_store_ 25 (.tmp 6) (.tmp 26) B _ (List.replicate 8 0) rfl rfl rfl rfl rfl HA.out rfl zA8.2 ?_
   intro w5 hA3 _ hs hw8
   have HB1 := hw8 _ _ GB.out HB.out
   go_wp2
   refine bodyPost_ret (results_arr rfl _ _ rfl hA3 uA8 zA8.2) rfl ?_
   exact ⟨rfl, rfl, HB1⟩

  rw [if_neg q1] at h
  have c1b : decide (a2 < 0) = false := decide_eq_false q1
  by_cases q2 : a2 ≥ (l1.length : Int) / 8
  ·rw [if_pos q2] at h
   obtain rfl := Option.some.inj h
   clear h
   have c2b : decide ((l1.length : Int) / 8 ≤ a2) = true := decide_eq_true q2
   go_enter Tryd.func29, Tryd.ntmps29
   go_wp2_with (first | ((with_reducible refine gate_dst (N := 3) rfl ?_); (try (refine gate_guard (by rfl) ?_; dsimp only)); refine bx_ 3 24 #[.int .i64 a0_0, .int .i64 a0_1, .int .u64 a0_2] ?_; intro gb hg w1 hbox hb; refine nx3_ (below_step (bU_ HB.out) hb) hbox ((hs_ hg (below_size (bU_ HB.out)))) ?_; clear HB; intro HB BK GW; clear hb hbox hg) | ((with_reducible refine gate_dst (N := 6) rfl ?_); refine hold_ ?_))
   refine ⟨?_⟩
   refine ev_alloc_ (some 6) 25 8 rfl rfl rfl zA8.1 ?_
   intro B w2 hB hA hb
   have hne := ak (show gb ≠ B by have := bk_lt BK.out; omega)
   refine nx4_ (below_step HB.out hb) (bk_ BK.out hb) hA (Nat.le_trans (below_size HB.out) hB) ?_
   clear HB BK hb hA hB
   intro HB BK HA GB
   go_wp2_with (first | ((with_reducible refine gate_dst (N := 7) rfl ?_); refine hold_ ?_))
   refine ⟨?_⟩
   refine ev_alloc_ (some 7) 25 8 rfl rfl rfl zA8.1 ?_
   intro B1 w3 hB hA1 hb
   have hne1 := ak (show gb ≠ B1 ∧ B ≠ B1 by have := bk_lt BK.out; have := HA.out.lt; omega)
   refine nx5_ (below_step HB.out hb) (bk_ BK.out hb) (HA.out.below hb) hA1 (Nat.le_trans (below_size HB.out) hB) ?_
   clear HB BK HA hb hA1 hB
   intro HB BK HA HA1 GB1
   have hczw3_0 := bc0_ BK.out; have hczw3_1 := bc1_ BK.out; have hczw3_2 := bc2_ BK.out; have hfzw3_0 := blk_frozen BK.out 0; have hfzw3_1 := blk_frozen BK.out 1; have hfzw3_2 := blk_frozen BK.out 2
   go_wp2_with (first | ((with_reducible refine gate_callee (f := 53) rfl ?_); refine gl_ (some 15) Tryd.func53 #[.agg #[.int .i64 a0_0, .int .i64 a0_1, .int .u64 a0_2], .slice A1 l1.length c1] ?_; refine hold_ ?_))
   refine ⟨?_⟩
   refine (fold_isWord.calls a0_0 a0_1 a0_2 A1 c1 l1 true _ (fU_ HG.out HB.out) (C_below HR1.out HB.out) HC1.out HW.out).mono ?_
   rintro e w4 ⟨rfl, hb⟩
   refine ⟨_, rfl, ?_⟩
   clear hczw3_0 hfzw3_0 hczw3_1 hfzw3_1 hczw3_2 hfzw3_2
   refine nx4_ (below_step (bU_ HB.out) hb) (bk_ BK.out hb) (HA.out.below hb) (HA1.out.below hb) ?_
   clear HB BK HA HA1 hb
   intro HB BK HA HA1
   go_wp2_with ((with_reducible refine gate_dst (N := 26) rfl ?_); refine hold_ ?_)
   refine ⟨?_⟩
   refine ev_load_ (some 26) 25 (.tmp 7) B1 8 22 _ rfl rfl rfl rfl HA1.out uA8 zA8.2 ?_
   go_wp2_with ((with_reducible refine gate_store (t := 25) (p := 6) rfl ?_); refine hold_ ?_)
   refine ⟨?_⟩
   refine ev_store_ 25 (.tmp 6) (.tmp 26) B _ (List.replicate 8 0) rfl rfl rfl rfl rfl HA.out rfl zA8.2 ?_
   intro w5 hA3 _ hs hw8
   have HB1 := hw8 _ _ GB.out HB.out
   go_wp2
   refine bodyPost_ret (results_arr rfl _ _ rfl hA3 uA8 zA8.2) rfl ?_
   exact ⟨rfl, rfl, HB1⟩

  rw [if_neg q2] at h
  have HL := ak h
  clear h
  have c2b : decide ((l1.length : Int) / 8 ≤ a2) = false := decide_eq_false q2
  go_enter Tryd.func29, Tryd.ntmps29
  go_wp2_with (first | ((with_reducible refine gate_dst (N := 3) rfl ?_); (try (refine gate_guard (by rfl) ?_; dsimp only)); refine bx_ 3 24 #[.int .i64 a0_0, .int .i64 a0_1, .int .u64 a0_2] ?_; intro gb hg w1 hbox hb; refine nx3_ (below_step (bU_ HB.out) hb) hbox ((hs_ hg (below_size (bU_ HB.out)))) ?_; clear HB; intro HB BK GW; clear hb hbox hg) | ((with_reducible refine gate_dst (N := 6) rfl ?_); refine hold_ ?_))
  refine ⟨?_⟩
  refine ev_alloc_ (some 6) 25 8 rfl rfl rfl zA8.1 ?_
  intro B w2 hB hA hb
  have hne := ak (show gb ≠ B by have := bk_lt BK.out; omega)
  refine nx4_ (below_step HB.out hb) (bk_ BK.out hb) hA (Nat.le_trans (below_size HB.out) hB) ?_
  clear HB BK hb hA hB
  intro HB BK HA GB
  go_wp2_with (first | ((with_reducible refine gate_dst (N := 7) rfl ?_); refine hold_ ?_))
  refine ⟨?_⟩
  refine ev_alloc_ (some 7) 25 8 rfl rfl rfl zA8.1 ?_
  intro B1 w3 hB hA1 hb
  have hne1 := ak (show gb ≠ B1 ∧ B ≠ B1 by have := bk_lt BK.out; have := HA.out.lt; omega)
  refine nx5_ (below_step HB.out hb) (bk_ BK.out hb) (HA.out.below hb) hA1 (Nat.le_trans (below_size HB.out) hB) ?_
  clear HB BK HA hb hA1 hB
  intro HB BK HA HA1 GB1
  have hczw3_0 := bc0_ BK.out; have hczw3_1 := bc1_ BK.out; have hczw3_2 := bc2_ BK.out; have hfzw3_0 := blk_frozen BK.out 0; have hfzw3_1 := blk_frozen BK.out 1; have hfzw3_2 := blk_frozen BK.out 2
  go_wp2_with (first | ((with_reducible refine gate_callee (f := 53) rfl ?_); refine gl_ (some 15) Tryd.func53 #[.agg #[.int .i64 a0_0, .int .i64 a0_1, .int .u64 a0_2], .slice A1 l1.length c1] ?_; refine hold_ ?_))
  refine ⟨?_⟩
  refine (fold_isWord.calls a0_0 a0_1 a0_2 A1 c1 l1 true _ (fU_ HG.out HB.out) (C_below HR1.out HB.out) HC1.out HW.out).mono ?_
  rintro e w4 ⟨rfl, hb⟩
  refine ⟨_, rfl, ?_⟩
  clear hczw3_0 hfzw3_0 hczw3_1 hfzw3_1 hczw3_2 hfzw3_2
  refine nx4_ (below_step (bU_ HB.out) hb) (bk_ BK.out hb) (HA.out.below hb) (HA1.out.below hb) ?_
  clear HB BK HA HA1 hb
  intro HB BK HA HA1

  have en : (l1.length : Int) / 8 = ((l1.length / 8 : Nat) : Int) := by omega
  obtain ⟨n, hn⟩ : ∃ n, n = l1.length / 8 := ⟨_, rfl⟩
  rw [← hn] at en HL
  rw [en] at c2b
  clear hn q2
  (try rw [en])
  go_wp2
  go_loopg [27] k (fun kq v27 w' => ∃ (j : Nat) (xs : List Int), v27 = .int .i64 (j : Int) ∧ Aside0 (fold_Leaf.l0 kq a0_0 l1 a2 n xs j = some r) ∧ Aside0 (kq ≤ k) ∧ Aside0 (xs.length = 8) ∧ Aside0 (w'.heap[gb]? = some (.cells #[.int .i64 a0_0, .int .i64 a0_1, .int .u64 a0_2] 24 (0, 0))) ∧ Aside0 (Arr w' B 25 (List.replicate 8 0)) ∧ Aside0 (Arr w' B1 25 xs) ∧ Aside0 (Below w.heap.size w w'))
  case atStart => exact ⟨0, _, rfl, HL, ⟨Nat.le_refl _⟩, ⟨rfl⟩, BK, HA, HA1, HB⟩
  case round =>
   clear HL BK HA HA1 HB
   obtain ⟨j, xs, rfl, HX, HK, HLN, BK, HA, HA1, HB⟩ := hrel
   cases gk with
   | zero => exact absurd HX.out (by simp [fold_Leaf.l0])
   | succ k1 =>
    have H := HX.out
    clear HX
    rw [fold_Leaf.l0] at H
    by_cases q3 : j < 8
    ·rw [if_pos q3] at H
     have e1 : decide ((j : Int) < 8) = true := by simp; omega
     obtain ⟨⟨q4, q5⟩, H⟩ := it_ H
     obtain ⟨y, hy, H⟩ := Option.bind_eq_some_iff.mp H
     have HX := ak H
     have HY := ak hy
     clear H hy
     obtain ⟨ad, ea, hx⟩ := Kd.at_int HR1.out (wrap64 (a2 + wrap64 ((j : Int) * (n : Int)))) q4 q5
     cases ea
     replace hx := (HB.out.cell (World.block_lt_of_cell? w _ hx)).trans hx
     go_wp2
     refine start_ (n := 14) (S := fun w' => w'.heap[gb]? = some (.cells #[.int .i64 a0_0, .int .i64 a0_1, .int .u64 a0_2] 24 (0, 0)) ∧ w'.cell? (ad.add (wrap64 (a2 + wrap64 ((j : Int) * (n : Int)))).toNat) = some (.int .u64 (rd l1 (wrap64 (a2 + wrap64 ((j : Int) * (n : Int))))))) (ds := [13]) (bv 14 0) (by kernel_rfl) rfl rfl ⟨bk_ BK.out (below_drew1 (Below.refl _ _)), ((below_drew1 (Below.refl _ _) : Below wr.heap.size wr wr.drew).cell (World.block_lt_of_cell? _ _ hx)).trans hx⟩ (fun hHeld => ?_)
     refine nx3_ (HA.out.below (below_drew1 (Below.refl _ _))) (HA1.out.below (below_drew1 (Below.refl _ _))) (below_drew1 HB.out) ?_
     clear BK HA HA1 HB hx
     intro HA HA1 HB
     generalize wr.drew = w5 at HA HA1 HB hHeld ⊢
     have HT_ : Aside0 (rtab .any (opsOf Tryd.f29 8) = rtab .any (opsOf Tryd.f29 8)) := ⟨rfl⟩
     refine pq_ 0 30 14 1 HT_.out ?_
     refine pq_ 1 31 14 3 HT_.out ?_
     refine take_ (i := 2) (N := some 32) (v := ?_) (a' := ?_) (bv 14 7) rfl rfl (take_of HT_.out (by kernel_rfl)) (fun _ _ _ h => h) (Or.inl ⟨by rfl, ?_⟩) hHeld ?_ ?_
     rotate_left
     ·rintro w' ⟨s0, s1⟩
      have z0 : w'.cell? ⟨gb, 0, none⟩ = some (.int .i64 a0_0) := (blk_cell s0 0).trans rfl
      go_simp
      with_reducible rfl
     rotate_left
     ·simp only [Act.put, s1_, s2_, s3_, i64_w, i32_w]
      rfl
     refine pq_ 3 33 14 15 HT_.out ?_
     refine pq_ 4 34 14 31 HT_.out ?_
     refine pq_ 5 35 14 63 HT_.out ?_
     refine pq_ 6 36 14 127 HT_.out ?_
     refine pq_ 7 37 14 255 HT_.out ?_
     refine pq_ 8 38 14 511 HT_.out ?_
     refine pq_ 9 39 14 1023 HT_.out ?_
     refine take_ (i := 10) (N := some 40) (v := ?_) (a' := ?_) (bv 14 2047) rfl rfl (take_of HT_.out (by kernel_rfl)) (fun _ _ _ h => h) (Or.inl ⟨by rfl, ?_⟩) hHeld ?_ ?_
     rotate_left
     ·rintro w' ⟨s0, s1⟩
      have z0 : w'.cell? ⟨gb, 0, none⟩ = some (.int .i64 a0_0) := (blk_cell s0 0).trans rfl
      go_simp
      with_reducible rfl
     rotate_left
     ·simp only [Act.put, s1_, s2_, s3_, i64_w, i32_w]
      rfl
     refine oq_ 11 41 14 4095 HT_.out fun K hK => ?_
     refine gs_ Tryd.func22 #[.int .i64 a0_0, .int .u64 (rd l1 (wrap64 (a2 + wrap64 ((j : Int) * (n : Int)))))] ?_
     refine (field_Reduce.calls a0_0 (rd l1 (wrap64 (a2 + wrap64 ((j : Int) * (n : Int))))) y _ (fU_ HG.out HB.out) HY.out).mono ?_
     rintro e w6 ⟨rfl, hb⟩
     refine ⟨_, rfl, ?_⟩
     refine nx4_ (bk_ hHeld.1 hb) (HA.out.below hb) (HA1.out.below hb) (below_step (bU_ HB.out) hb) ?_
     clear HA HA1 HB
     intro BK HA HA1 HB
     refine hK.out _ _ ⟨bk_ hHeld.1 hb, (hb.cell (World.block_lt_of_cell? _ _ hHeld.2)).trans hHeld.2⟩ (fun hHeld => ?_)
     clear hK K hb
     refine norm_ (a' := ?_) ?_ ?_
     rotate_left
     ·show Act.put _ (some 41) _ = _
      simp only [Act.put, s1_, s2_, s3_, i64_w, i32_w]
      rfl
     have hu25 := uA8
     have e8 : (j : Int) < 8 := by omega
     have hj8 : j < xs.length := by have := HLN.out; omega
     refine pq_ 12 42 14 8191 HT_.out ?_
     have hxB := HA1.out.part.cell hj8
     have hfB := HA1.out.part.frozen j
     rw [Nat.zero_add] at hxB
     refine last_ (i := 13) (N := none) (bv 14 16383) rfl rfl (one_of HT_.out (by kernel_rfl)) (by decide) (fun K hK => ?_)
     refine skip_ (w1 := w6.setCell ⟨B1, j, none⟩ (.int .u64 y)) (by rfl) rfl ?_ ?_
     ·go_simp
     refine hK.out _ _ ?_
     clear hK K hHeld hxB hfB
     have hgr := setCell_grown w6 B1 j (.int .u64 y)
     refine nx4_ (bk_grown BK.out hgr hne1.out.1) (HA.out.grown hgr (fun e => hne1.out.2 (Option.some.inj e))) (HA1.out.set j y) (below_set HB.out GB1.out : Below w.heap.size w (w6.setCell ⟨B1, j, none⟩ (.int .u64 y))) ?_
     clear BK HA HA1 HB hgr
     intro BK HA HA1 HB
     refine done_ (done_of HT_.out (by kernel_rfl)) ?_
     go_wp2
     go_roundg k1
     case measure => have := HK.out; omega
     case rel => exact ⟨j + 1, _, by first | rfl | (simp; done) | (simp [*]; done), HX, ⟨by have := HK.out; omega⟩, ⟨by rw [List.length_set]; exact HLN.out⟩, BK, HA, HA1, HB⟩
    rw [if_neg q3] at H
    obtain rfl := Option.some.inj H
    clear H
    have e1 : decide ((j : Int) < 8) = false := by simp; omega
    go_wp2_with ((with_reducible refine gate_dst (N := 44) rfl ?_); refine hold_ ?_)
    refine ⟨?_⟩
    refine ev_load_ (some 44) 25 (.tmp 7) B1 8 22 _ rfl rfl rfl rfl HA1.out uA8 (by have := HLN.out; rw [this]; exact zA8.2) ?_
    go_wp2_with ((with_reducible refine gate_store (t := 25) (p := 6) rfl ?_); refine hold_ ?_)
    refine ⟨?_⟩
    refine ev_store_ 25 (.tmp 6) (.tmp 44) B _ xs rfl rfl rfl rfl rfl HA.out (by have := HLN.out; simpa using this) zA8.2 ?_
    intro w9 hA3 _ hs hw8
    have HB1 := hw8 _ _ GB.out HB.out
    go_wp2
    refine bodyPost_ret (results_arr rfl _ _ rfl hA3 uA8 (by have := HLN.out; rw [this]; exact zA8.2)) rfl ?_
    exact ⟨rfl, HLN.out, HB1⟩

 rw [if_neg q0] at h
 obtain rfl := Option.some.inj h
 clear h
 obtain rfl : b = false := by simpa using q0
 go_enter Tryd.func29, Tryd.ntmps29
 go_wp2_with (first | ((with_reducible refine gate_dst (N := 3) rfl ?_); (try (refine gate_guard (by rfl) ?_; dsimp only)); refine bx_ 3 24 #[.int .i64 a0_0, .int .i64 a0_1, .int .u64 a0_2] ?_; intro gb hg w1 hbox hb; refine nx3_ (below_step (bU_ HB.out) hb) hbox ((hs_ hg (below_size (bU_ HB.out)))) ?_; clear HB; intro HB BK GW; clear hb hbox hg) | ((with_reducible refine gate_dst (N := 6) rfl ?_); refine hold_ ?_))
 refine ⟨?_⟩
 refine ev_alloc_ (some 6) 25 8 rfl rfl rfl zA8.1 ?_
 intro B w2 hB hA hb
 have hne := ak (show gb ≠ B by have := bk_lt BK.out; omega)
 refine nx4_ (below_step HB.out hb) (bk_ BK.out hb) hA (Nat.le_trans (below_size HB.out) hB) ?_
 clear HB BK hb hA hB
 intro HB BK HA GB
 go_wp2_with (first | ((with_reducible refine gate_dst (N := 7) rfl ?_); refine hold_ ?_))
 refine ⟨?_⟩
 refine ev_alloc_ (some 7) 25 8 rfl rfl rfl zA8.1 ?_
 intro B1 w3 hB hA1 hb
 have hne1 := ak (show gb ≠ B1 ∧ B ≠ B1 by have := bk_lt BK.out; have := HA.out.lt; omega)
 refine nx5_ (below_step HB.out hb) (bk_ BK.out hb) (HA.out.below hb) hA1 (Nat.le_trans (below_size HB.out) hB) ?_
 clear HB BK HA hb hA1 hB
 intro HB BK HA HA1 GB1
 have hczw3_0 := bc0_ BK.out; have hczw3_1 := bc1_ BK.out; have hczw3_2 := bc2_ BK.out; have hfzw3_0 := blk_frozen BK.out 0; have hfzw3_1 := blk_frozen BK.out 1; have hfzw3_2 := blk_frozen BK.out 2
 go_wp2_with (first | ((with_reducible refine gate_callee (f := 53) rfl ?_); refine gl_ (some 15) Tryd.func53 #[.agg #[.int .i64 a0_0, .int .i64 a0_1, .int .u64 a0_2], .slice A1 l1.length c1] ?_; refine hold_ ?_))
 refine ⟨?_⟩
 refine (fold_isWord.calls a0_0 a0_1 a0_2 A1 c1 l1 false _ (fU_ HG.out HB.out) (C_below HR1.out HB.out) HC1.out HW.out).mono ?_
 rintro e w4 ⟨rfl, hb⟩
 refine ⟨_, rfl, ?_⟩
 clear hczw3_0 hfzw3_0 hczw3_1 hfzw3_1 hczw3_2 hfzw3_2
 refine nx4_ (below_step (bU_ HB.out) hb) (bk_ BK.out hb) (HA.out.below hb) (HA1.out.below hb) ?_
 clear HB BK HA HA1 hb
 intro HB BK HA HA1
 go_wp2_with ((with_reducible refine gate_dst (N := 26) rfl ?_); refine hold_ ?_)
 refine ⟨?_⟩
 refine ev_load_ (some 26) 25 (.tmp 7) B1 8 22 _ rfl rfl rfl rfl HA1.out uA8 zA8.2 ?_
 go_wp2_with ((with_reducible refine gate_store (t := 25) (p := 6) rfl ?_); refine hold_ ?_)
 refine ⟨?_⟩
 refine ev_store_ 25 (.tmp 6) (.tmp 26) B _ (List.replicate 8 0) rfl rfl rfl rfl rfl HA.out rfl zA8.2 ?_
 intro w5 hA3 _ hs hw8
 have HB1 := hw8 _ _ GB.out HB.out
 go_wp2
 refine bodyPost_ret (results_arr rfl _ _ rfl hA3 uA8 zA8.2) rfl ?_
 exact ⟨rfl, rfl, HB1⟩

theorem fold_Leaf.calls (k : Nat) (a0_0 a0_1 a0_2 : Int) (A1 : Option Addr) (c1 : Nat) (l1 : List Int) (a2 : Int) (r : List Int) (w : World) (hG : Fld w) (hr1 : Kd.C (Kd.int .u64) w A1 l1.length l1) (hc1 : l1.length ≤ c1) (h : fold_Leaf.f k a0_0 a0_1 a0_2 l1 a2 = some r) :
  Calls Tryd.prog 29 #[.agg #[.int .i64 a0_0, .int .i64 a0_1, .int .u64 a0_2], .slice A1 l1.length c1, .int .i64 a2] w fun e w' => e = .returned (.agg #[.int .u64 (bco r 0), .int .u64 (bco r 1), .int .u64 (bco r 2), .int .u64 (bco r 3), .int .u64 (bco r 4), .int .u64 (bco r 5), .int .u64 (bco r 6), .int .u64 (bco r 7)]) ∧ Below w.heap.size w w' :=
 (fold_Leaf.calls8 k a0_0 a0_1 a0_2 A1 c1 l1 a2 r w hG hr1 hc1 h).mono fun _ _ h => ⟨by rw [h.1, arX_ h.2.1], h.2.2⟩

end Go.Proofs.YthinfmfjpaikiaaDoor.Q

import Derived.Test.YtbjeemlbjkmhiaaDoorQ0
import Derived.Test.YtbjeemlbjkmhiaaDoorQ2
import Derived.Test.YtbjeemlbjkmhiaaDoorQ4
import Derived.Test.YtbjeemlbjkmhiaaDoorQ11
namespace Go.Proofs.YtbjeemlbjkmhiaaDoor.Q
open Go.RowKit Go.Proofs.YtbjeemlbjkmhiaaDoorW.PrintWords Go.Proofs.YtbjeemlbjkmhiaaDoorW.PrintLast Go.Proofs.YtbjeemlbjkmhiaaDoorW.PrintMore
open Kd (R_slice R_reads' C_below)
attribute [local go_sem] max2_int min2_int max_two min_two max_three min_three max_four min_four   -- for this text's walks alone
set_option linter.unusedVariables false
set_option linter.unusedSimpArgs false

section
open Go.Shelf
attribute [local go_sem] Oper.semAt_some
theorem prs_at (p i : Nat) (h : i < (prs p).length) : (prs p)[i] = #[.int .u64 ((i / p : Nat) : Int), .int .u64 ((i % p : Nat) : Int)] := by simp [prs]
theorem prs_two (p : Nat) : ∀ x ∈ prs p, x.size = 2 := fun x hx => by obtain ⟨y, _, rfl⟩ := List.mem_map.1 hx; rfl
theorem pr_drop (n i : Nat) (h : i < n) : (List.range n).drop i = i :: (List.range n).drop (i + 1) := by rw [List.drop_eq_getElem_cons (by simpa using h), List.getElem_range]
def gap_Equal.l0 (k : Nat) (f : Int) (p : Nat) (l1 l2 : List (List Int)) : List Nat → Int → Option Int
 | [], n => some n
 | t :: ts, n => (gap_values.f k f l1 ((t / p : Nat) : Int) ((t % p : Nat) : Int)).bind fun u => (gap_product.f k f u).bind fun x => (gap_values.f k f l2 ((t / p : Nat) : Int) ((t % p : Nat) : Int)).bind fun v => (gap_product.f k f v).bind fun y => gap_Equal.l0 k f p l1 l2 ts (if x = y then wrap64 (n + 1) else n)
def gap_Equal.f (k : Nat) (a0 : Int) (l1 l2 : List (List Int)) : Option (Int × Int) := (gap_tuples.f a0 l1 l2).bind fun e => if ((l1.length : Int) != (l2.length : Int)) = true then some (0, 1) else if (e != 0) = true then some (0, e) else (field_P.f a0).bind fun P => (gap_Equal.l0 k a0 P.toNat l1 l2 (List.range (P.toNat * P.toNat)) 0).bind fun n => some (n, 0)
structure EB (k : Nat) (a0 : Int) (p : Nat) (A1 : Option Addr) (c1 : Nat) (l1 : List (List Int)) (A2 : Option Addr) (c2 : Nat) (l2 : List (List Int)) (r : Int) (w : World) (nb : Nat) (xs : List Nat) (n : Int) (W : World) : Prop where
 on : gap_Equal.l0 k a0 p l1 l2 xs n = some r
 bf : W.heap[w.heap.size]? = some (.cells #[.int .i64 a0] 3 (0, 0))
 bl : W.heap[w.heap.size + 1]? = some (.cells #[.slice A1 l1.length c1] 42 (0, 0))
 br : W.heap[w.heap.size + 1 + 1]? = some (.cells #[.slice A2 l2.length c2] 42 (0, 0))
 bn : W.heap[nb]? = some (.cells #[.int .i64 n] 3 (0, 0))
 bel : Below w.heap.size w W
section
variable {k : Nat} {a0 : Int} {p : Nat} {A1 : Option Addr} {c1 : Nat} {l1 : List (List Int)} {A2 : Option Addr} {c2 : Nat} {l2 : List (List Int)} {r : Int} {w : World} {nb : Nat} {xs : List Nat} {n : Int} {W W' : World}
theorem EB.below (h : EB k a0 p A1 c1 l1 A2 c2 l2 r w nb xs n W) (hb : Below W.heap.size W W') : EB k a0 p A1 c1 l1 A2 c2 l2 r w nb xs n W' := ⟨h.on, blk_below h.bf hb, blk_below h.bl hb, blk_below h.br hb, blk_below h.bn hb, below_step h.bel hb⟩
theorem EB.own (s : Nat) (hs : w.heap.size ≤ s) (F : Nat → List Nat) : OwnFrom s (fun (i : Nat) W => ∃ n, EB k a0 p A1 c1 l1 A2 c2 l2 r w nb (F i) n W) := by
 rintro i X Y row ⟨n, h⟩ hg hr
 have hne : ∀ {b : Nat} {c : Array Value} {t : TypeId} {g : Nat × Nat}, X.heap[b]? = some (.cells c t g) → some b ≠ row := by
  intro b c t g hb e
  obtain ⟨_, o, ho, hc⟩ := hr b e.symm
  rw [hb] at ho
  cases ho
  simp [Obj.isCells] at hc
 exact ⟨n, h.on, blk_grown h.bf hg (hne h.bf), blk_grown h.bl hg (hne h.bl), blk_grown h.br hg (hne h.br), blk_grown h.bn hg (hne h.bn), h.bel.grown hg h.bel.size fun b e => Nat.le_trans hs (hr b e).1⟩
theorem EB.put {ys : List Nat} (h : EB k a0 p A1 c1 l1 A2 c2 l2 r w nb xs n W) (m : Int) (hon : gap_Equal.l0 k a0 p l1 l2 ys m = some r) (h1 : w.heap.size + 1 + 1 < nb) : EB k a0 p A1 c1 l1 A2 c2 l2 r w nb ys m (W.setCell ⟨nb, 0, none⟩ (.int .i64 m)) :=
 ⟨hon, blk_far h.bf (p := ⟨nb, 0, none⟩) (by show w.heap.size ≠ nb; omega) _, blk_far h.bl (p := ⟨nb, 0, none⟩) (by show w.heap.size + 1 ≠ nb; omega) _, blk_far h.br (p := ⟨nb, 0, none⟩) (by show w.heap.size + 1 + 1 ≠ nb; omega) _, blk_put (cs := #[.int .i64 n]) h.bn 0 _ rfl, below_set h.bel (by omega)⟩
end
set_option maxRecDepth 100000 in
set_option maxHeartbeats 8000000 in
theorem gap_Equal_main (k : Nat) (a0 : Int) (A1 : Option Addr) (c1 : Nat) (l1 : List (List Int)) (A2 : Option Addr) (c2 : Nat) (l2 : List (List Int)) (r : Int) (w : World) (HG : Aside0 (Fld w)) (HR1 : Aside0 (Kd.C (Kd.slice 48 (Kd.int .u64)) w A1 l1.length l1)) (hc1 : l1.length ≤ c1) (HR2 : Aside0 (Kd.C (Kd.slice 48 (Kd.int .u64)) w A2 l2.length l2)) (hc2 : l2.length ≤ c2)
  (HV : Aside0 (gap_tuples.f a0 l1 l2 = some 0)) (e1 : ((l1.length : Int) != (l2.length : Int)) = false) (p : Nat) (HP : Aside0 (field_P.f a0 = some (p : Int))) (hp32 : p ≤ 4294967296) (HL : Aside0 (gap_Equal.l0 k a0 p l1 l2 (List.range (p * p)) 0 = some r)) :
  Calls Tryd.prog 22 #[.int .i64 a0, .slice A1 l1.length c1, .slice A2 l2.length c2] w fun e w' => e = .returned (.tuple #[.int .i64 r, .int .i64 0]) ∧ Below w.heap.size w w' := by
 have h1 : 1 ≤ 20 := by decide
 have hR1' : Kd.C (Kd.slice 48 (Kd.int .u64)) (((w.alloc (.cells #[.int .i64 a0] 3)).alloc (.cells #[.slice A1 l1.length c1] 42)).alloc (.cells #[.slice A2 l2.length c2] 42)) A1 l1.length l1 := Kd.C_alloc (Kd.C_alloc (Kd.C_alloc HR1.out _) _) _
 have hR2' : Kd.C (Kd.slice 48 (Kd.int .u64)) (((w.alloc (.cells #[.int .i64 a0] 3)).alloc (.cells #[.slice A1 l1.length c1] 42)).alloc (.cells #[.slice A2 l2.length c2] 42)) A2 l2.length l2 := Kd.C_alloc (Kd.C_alloc (Kd.C_alloc HR2.out _) _) _
 have hbf' : (((w.alloc (.cells #[.int .i64 a0] 3)).alloc (.cells #[.slice A1 l1.length c1] 42)).alloc (.cells #[.slice A2 l2.length c2] 42)).heap[w.heap.size]? = some (.cells #[.int .i64 a0] 3 (0, 0)) := blk_alloc (blk_alloc (World.alloc_heap_new w _) _) _
 have hbl' : (((w.alloc (.cells #[.int .i64 a0] 3)).alloc (.cells #[.slice A1 l1.length c1] 42)).alloc (.cells #[.slice A2 l2.length c2] 42)).heap[w.heap.size + 1]? = some (.cells #[.slice A1 l1.length c1] 42 (0, 0)) := blk_alloc (al_new_ _ _ _ (by simp)) _
 have hbr' : (((w.alloc (.cells #[.int .i64 a0] 3)).alloc (.cells #[.slice A1 l1.length c1] 42)).alloc (.cells #[.slice A2 l2.length c2] 42)).heap[w.heap.size + 1 + 1]? = some (.cells #[.slice A2 l2.length c2] 42 (0, 0)) := al_new_ _ _ _ (by simp)
 have hbel' : Below w.heap.size w (((w.alloc (.cells #[.int .i64 a0] 3)).alloc (.cells #[.slice A1 l1.length c1] 42)).alloc (.cells #[.slice A2 l2.length c2] 42)) := below_alloc (below_alloc (below_alloc (Below.refl _ _) _) _) _
 have HX := ak hR1'
 have HY := ak hR2'
 have HZ := ak (And.intro hbf' (And.intro hbl' (And.intro hbr' hbel')))
 clear hR1' hR2' hbf' hbl' hbr' hbel'
 refine (callsIn_wide (n := 20)).1 (callsIn_of_wp_marks Tryd.func22 rfl trivial ?_ rfl)
 simp only [Tryd.ntmps22, List.size_toArray, List.length_cons, List.length_nil, Nat.reduceAdd, Nat.reduceSub, Array.replicate_succ, Array.replicate_zero, List.push_toArray, List.append_toArray, List.nil_append, List.cons_append]
 gi_wp2_with (first | (refine ⟨trivial, ?_⟩; gi_at_call 65; refine (callsIn_wide.2 (gap_tuples.calls a0 A1 c1 l1 A2 c2 l2 0 _ HX.out hc1 HY.out hc2 HV.out)).mono ?_; rintro e wt ⟨rfl, hb⟩; have hbf := blk_below HZ.out.1 hb; have hbl := blk_below HZ.out.2.1 hb; have hbr := blk_below HZ.out.2.2.1 hb; have HBT := ak (below_step HZ.out.2.2.2 hb); have hsz : w.heap.size + 1 + 1 < wt.heap.size := blk_lt hbr; have HBF := ak hbf; have HBL := ak hbl; have HBR := ak hbr; clear hb HX HY HZ hbf hbl hbr; have hcl : wt.cell? ⟨w.heap.size + 1, 0, none⟩ = some (.slice A1 l1.length c1) := bc0_ HBL.out; have hcr : wt.cell? ⟨w.heap.size + 1 + 1, 0, none⟩ = some (.slice A2 l2.length c2) := bc0_ HBR.out; have hcf : (wt.alloc (.cells #[.int .i64 0] 3)).cell? ⟨w.heap.size, 0, none⟩ = some (.int .i64 a0) := (blk_cell (blk_alloc HBF.out _) 0).trans rfl) | (refine ⟨trivial, ?_⟩; gi_at_call 66; refine (callsIn_wide.2 (gap_pairs_calls a0 _)).mono ?_; rintro e w' ⟨rfl, rfl⟩))
 clear hcl hcr hcf
 obtain ⟨nb, hnb⟩ : ∃ nb, nb = wt.heap.size := ⟨_, rfl⟩
 obtain ⟨W0, hW0⟩ : ∃ W0, (wt.alloc (.cells #[.int .i64 0] 3)).alloc (.cells #[.int .i64 a0] 3) = W0 := ⟨_, rfl⟩
 have hB0 : Below wt.heap.size wt W0 := by rw [← hW0]; exact below_alloc (below_alloc (Below.refl _ _) _) _
 have hs0 : W0.heap.size = nb + 1 + 1 := by rw [← hW0, hnb]; simp
 have hbn : W0.heap[nb]? = some (.cells #[.int .i64 0] 3 (0, 0)) := by rw [← hW0, hnb]; exact blk_alloc (World.alloc_heap_new wt _) _
 have hbe : W0.heap[nb + 1]? = some (.cells #[.int .i64 a0] 3 (0, 0)) := by rw [← hW0, hnb]; exact al_new_ _ _ _ (by simp)
 have hE0 : EB k a0 p A1 c1 l1 A2 c2 l2 r w nb (List.range (p * p)) 0 W0 := ⟨HL.out, blk_below HBF.out hB0, blk_below HBL.out hB0, blk_below HBR.out hB0, hbn, below_step HBT.out hB0⟩
 have hnw : w.heap.size + 1 + 1 < nb := by omega
 have hg1 : 0 < nb := Nat.lt_trans HG.out.lt (by omega)
 have hg2 : 0 < nb := Nat.lt_trans HG.out.lt (by omega)
 rw [hW0, ← hnb]
 clear hW0 hB0 hbn HBF HBL HBR HBT hsz hnb
 refine wpIn_rangeSeqH (F := Fence.wide) (n := 20) rfl h1 (gf := 111) (lb := #[.pointer (some ⟨nb + 1, 0, none⟩)]) rfl trivial (enters_of Tryd.func111 (by kernel_rfl) rfl)
  (xs := prs p) (K := KN nb (W0.heap.size + 2)) (w0 := W0) (gap_pairs_run (20 - 1) (by decide) (nb + 1) nb a0 p HP.out hp32 W0 (Fld.below HG.out hE0.bel) hbe (by omega) (by omega) hg1 hg2) KN.trans (fun W l o o' _ h2 hl hc _ => KN.put o' h2 hl hc) (Below.refl _ _)
  (prs_two p) (fun i W' => ∃ n, EB k a0 p A1 c1 l1 A2 c2 l2 r w nb ((List.range (p * p)).drop i) n W') (EB.own _ (by omega) fun i => (List.range (p * p)).drop i) ⟨0, hE0⟩
  (fun i a' _ => a' = { tmps := #[Value.int IntKind.i64 a0, Value.slice A1 l1.length c1, Value.slice A2 l2.length c2, Value.pointer (some { block := w.heap.size, off := 0 }), Value.pointer (some { block := w.heap.size + 1, off := 0 }), Value.pointer (some { block := w.heap.size + 1 + 1, off := 0 }), Value.int IntKind.i64 0, Value.int IntKind.i64 0, Value.int IntKind.i64 0, Value.pointer (some { block := nb, off := 0 }), Value.int IntKind.u64 ↑(i / p), Value.int IntKind.u64 ↑(i % p), Value.int IntKind.i64 a0, Value.slice A1 l1.length c1, Value.slice A2 l2.length c2, Value.int IntKind.i64 0, Value.bool false, Value.slice A1 l1.length c1, Value.int IntKind.i64 ↑l1.length, Value.slice A2 l2.length c2, Value.int IntKind.i64 ↑l2.length, Value.bool false, Value.bool false, Value.int IntKind.i64 0, Value.bool false, undef, Value.int IntKind.i64 a0, Value.func (Fn.func 111) #[] #[Value.pointer (some { block := nb + 1, off := 0 })], Value.int IntKind.u64 ↑(i / p), Value.int IntKind.u64 ↑(i % p), undef, undef, undef, undef, undef, undef, undef, undef, undef, undef, undef, undef, undef, undef, undef, undef, undef, undef], defers := [] })
  (fun _ _ _ _ _ _ h _ _ => h) ?assign ?body ?done
 case assign =>
  intro l i hi W1 K' hI hK'
  obtain ⟨x, hx⟩ : ∃ x, x = ((i / p : Nat) : Int) := ⟨_, rfl⟩
  obtain ⟨y, hy⟩ : ∃ y, y = ((i % p : Nat) : Int) := ⟨_, rfl⟩
  rw [prs_at, ← hx, ← hy]
  have HXY := ak (And.intro hx hy)
  clear hx hy
  simp only [List.zip_toArray, List.zip_cons_cons, List.zip_nil_right, List.foldl_toArray, List.foldl_cons, List.foldl_nil, List.setIfInBounds_toArray, List.set_cons_zero, List.set_cons_succ]
  gi_wp2
  exact hK' _ _ (KeepsFrom.refl _ _) ⟨KC.refl _ _, KeepsFrom.refl _ _⟩ hI (by rw [HXY.out.1, HXY.out.2])
 case body =>
  rintro l i a' W1 hi hl _ ⟨n, hB⟩ rfl
  have hip : i < p * p := by rw [prs_length] at hi; exact hi
  have HS0 := ak hs0
  clear hs0
  have on := hB.on
  rw [pr_drop _ _ hip, gap_Equal.l0] at on
  generalize ((i / p : Nat) : Int) = x at on ⊢
  generalize ((i % p : Nat) : Int) = y at on ⊢
  obtain ⟨t1, h1', on⟩ := Option.bind_eq_some_iff.1 on
  obtain ⟨t2, h2', on⟩ := Option.bind_eq_some_iff.1 on
  obtain ⟨t3, h3', on⟩ := Option.bind_eq_some_iff.1 on
  obtain ⟨t4, h4', on⟩ := Option.bind_eq_some_iff.1 on
  have HE := ak hB
  have H1 := ak h1'
  have H2 := ak h2'
  have H3 := ak h3'
  have H4 := ak h4'
  have HON := ak on
  have HK := ak (KC.refl nb W1)
  have HF := ak (KeepsFrom.refl W0.heap.size W1)
  clear hB h1' h2' h3' h4' on hi
  refine wpIn_block ?_
  refine wpIn_seq ?_
  have HE2 := ak (HE.out.below (below_drew1 (Below.refl _ _)))
  have HK2 := ak (HK.out.trans (KC.of_below (below_drew1 (Below.refl _ _))) : KC nb W1 W1.drew)
  have HF2 := ak (keepsFrom_of_below HF.out (below_drew1 (Below.refl W1.heap.size W1)))
  clear HE HK HF
  have HE := HE2
  have HK := HK2
  have HF := HF2
  clear HE2 HK2 HF2
  refine startIn_ (n := 15) (by simp [noDefer]) (fun ⟨_, _, h⟩ => h) (S := fun w' => w'.cell? ⟨w.heap.size, 0, none⟩ = some (.int .i64 a0) ∧ w'.cell? ⟨w.heap.size + 1, 0, none⟩ = some (.slice A1 l1.length c1) ∧ w'.cell? ⟨w.heap.size + 1 + 1, 0, none⟩ = some (.slice A2 l2.length c2)) (ds := []) (bv 15 0) (by kernel_rfl) rfl rfl ⟨(blk_cell HE.out.bf 0).trans rfl, (blk_cell HE.out.bl 0).trans rfl, (blk_cell HE.out.br 0).trans rfl⟩ (fun hHeld => ?_)
  have HT_ : Aside0 (rtab .any (opsOf Tryd.f22 10) = rtab .any (opsOf Tryd.f22 10)) := ⟨rfl⟩
  generalize W1.drew = w5 at HE HK HF hHeld ⊢
  refine take_ (i := 0) (N := some 30) (v := ?_) (a' := ?_) (bv 15 1) rfl rfl (take_of HT_.out (by kernel_rfl)) (fun _ _ _ h => h) (Or.inl ⟨by rfl, ?_⟩) hHeld ?_ ?_
  rotate_left
  ·rintro w' ⟨s0, s1, s2⟩
   go_simp
   with_reducible rfl
  rotate_left
  ·simp only [Act.put, s1_, s2_, s3_, i64_w, i32_w]
   rfl
  refine take_ (i := 1) (N := some 31) (v := ?_) (a' := ?_) (bv 15 3) rfl rfl (take_of HT_.out (by kernel_rfl)) (fun _ _ _ h => h) (Or.inl ⟨by rfl, ?_⟩) hHeld ?_ ?_
  rotate_left
  ·rintro w' ⟨s0, s1, s2⟩
   go_simp
   with_reducible rfl
  rotate_left
  ·simp only [Act.put, s1_, s2_, s3_, i64_w, i32_w]
   rfl
  refine take_ (i := 2) (N := some 32) (v := ?_) (a' := ?_) (bv 15 7) rfl rfl (take_of HT_.out (by kernel_rfl)) (fun _ _ _ h => h) (Or.inl ⟨by rfl, ?_⟩) hHeld ?_ ?_
  rotate_left
  ·rintro w' ⟨s0, s1, s2⟩
   go_simp
   with_reducible rfl
  rotate_left
  ·simp only [Act.put, s1_, s2_, s3_, i64_w, i32_w]
   rfl
  refine pq_ 3 33 15 15 HT_.out ?_
  refine pq_ 4 34 15 31 HT_.out ?_
  refine take_ (i := 7) (N := some 37) (v := ?_) (a' := ?_) (bv 15 159) rfl rfl (take_of HT_.out (by kernel_rfl)) (fun _ _ _ h => h) (Or.inl ⟨by rfl, ?_⟩) hHeld ?_ ?_
  rotate_left
  ·rintro w' ⟨s0, s1, s2⟩
   go_simp
   with_reducible rfl
  rotate_left
  ·simp only [Act.put, s1_, s2_, s3_, i64_w, i32_w]
   rfl
  refine take_ (i := 8) (N := some 38) (v := ?_) (a' := ?_) (bv 15 415) rfl rfl (take_of HT_.out (by kernel_rfl)) (fun _ _ _ h => h) (Or.inl ⟨by rfl, ?_⟩) hHeld ?_ ?_
  rotate_left
  ·rintro w' ⟨s0, s1, s2⟩
   go_simp
   with_reducible rfl
  rotate_left
  ·simp only [Act.put, s1_, s2_, s3_, i64_w, i32_w]
   rfl
  refine take_ (i := 9) (N := some 39) (v := ?_) (a' := ?_) (bv 15 927) rfl rfl (take_of HT_.out (by kernel_rfl)) (fun _ _ _ h => h) (Or.inl ⟨by rfl, ?_⟩) hHeld ?_ ?_
  rotate_left
  ·rintro w' ⟨s0, s1, s2⟩
   go_simp
   with_reducible rfl
  rotate_left
  ·simp only [Act.put, s1_, s2_, s3_, i64_w, i32_w]
   rfl
  refine pq_ 10 40 15 1951 HT_.out ?_
  refine pq_ 11 41 15 3999 HT_.out ?_
  refine oq_ 5 35 15 4031 HT_.out fun K hK => ?_
  refine gs_ Tryd.func68 #[.int .i64 a0, .slice A1 l1.length c1, .int .u64 x, .int .u64 y] ?_
  refine (gap_values.calls k a0 A1 c1 l1 x y t1 _ (Fld.below HG.out HE.out.bel) (C_below HR1.out HE.out.bel) hc1 H1.out).mono ?_
  rintro e w6 ⟨v1_, rfl, hrow, hb⟩
  refine ⟨_, rfl, ?_⟩
  obtain ⟨Au, cu, eu⟩ := R_slice hrow
  subst eu
  have HCu := ak (R_reads' hrow).2
  have HE2 := ak (HE.out.below hb)
  have HK2 := ak (HK.out.trans (KC.of_below hb) : KC nb W1 w6)
  have HF2 := ak (keepsFrom_of_below HF.out hb)
  clear HE HK HF hb hrow
  have HE := HE2
  have HK := HK2
  have HF := HF2
  clear HE2 HK2 HF2
  refine hK.out _ _ ⟨(blk_cell HE.out.bf 0).trans rfl, (blk_cell HE.out.bl 0).trans rfl, (blk_cell HE.out.br 0).trans rfl⟩ (fun hHeld => ?_)
  clear hK K
  refine norm_ (a' := ?_) ?_ ?_
  rotate_left
  ·show Act.put _ (some 35) _ = _
   simp only [Act.put, s1_, s2_, s3_, i64_w, i32_w]
   rfl
  refine oq_ 6 36 15 4095 HT_.out fun K hK => ?_
  refine gs_ Tryd.func67 #[.int .i64 a0, .slice Au t1.length cu] ?_
  refine (gap_product.calls k a0 Au cu t1 t2 _ (Fld.below HG.out HE.out.bel) HCu.out.2 HCu.out.1 H2.out).mono ?_
  rintro e w6 ⟨rfl, hb⟩
  refine ⟨_, rfl, ?_⟩
  have HE2 := ak (HE.out.below hb)
  have HK2 := ak (HK.out.trans (KC.of_below hb) : KC nb W1 w6)
  have HF2 := ak (keepsFrom_of_below HF.out hb)
  clear HE HK HF hb
  have HE := HE2
  have HK := HK2
  have HF := HF2
  clear HE2 HK2 HF2
  refine hK.out _ _ ⟨(blk_cell HE.out.bf 0).trans rfl, (blk_cell HE.out.bl 0).trans rfl, (blk_cell HE.out.br 0).trans rfl⟩ (fun hHeld => ?_)
  clear hK K
  refine norm_ (a' := ?_) ?_ ?_
  rotate_left
  ·show Act.put _ (some 36) _ = _
   simp only [Act.put, s1_, s2_, s3_, i64_w, i32_w]
   rfl
  refine oq_ 12 42 15 8191 HT_.out fun K hK => ?_
  refine gs_ Tryd.func68 #[.int .i64 a0, .slice A2 l2.length c2, .int .u64 x, .int .u64 y] ?_
  refine (gap_values.calls k a0 A2 c2 l2 x y t3 _ (Fld.below HG.out HE.out.bel) (C_below HR2.out HE.out.bel) hc2 H3.out).mono ?_
  rintro e w6 ⟨v1_, rfl, hrow, hb⟩
  refine ⟨_, rfl, ?_⟩
  obtain ⟨Av, cv, ev⟩ := R_slice hrow
  subst ev
  have HCv := ak (R_reads' hrow).2
  have HE2 := ak (HE.out.below hb)
  have HK2 := ak (HK.out.trans (KC.of_below hb) : KC nb W1 w6)
  have HF2 := ak (keepsFrom_of_below HF.out hb)
  clear HE HK HF hb hrow
  have HE := HE2
  have HK := HK2
  have HF := HF2
  clear HE2 HK2 HF2
  refine hK.out _ _ ⟨(blk_cell HE.out.bf 0).trans rfl, (blk_cell HE.out.bl 0).trans rfl, (blk_cell HE.out.br 0).trans rfl⟩ (fun hHeld => ?_)
  clear hK K
  refine norm_ (a' := ?_) ?_ ?_
  rotate_left
  ·show Act.put _ (some 42) _ = _
   simp only [Act.put, s1_, s2_, s3_, i64_w, i32_w]
   rfl
  refine oq_ 13 43 15 16383 HT_.out fun K hK => ?_
  refine gs_ Tryd.func67 #[.int .i64 a0, .slice Av t3.length cv] ?_
  refine (gap_product.calls k a0 Av cv t3 t4 _ (Fld.below HG.out HE.out.bel) HCv.out.2 HCv.out.1 H4.out).mono ?_
  rintro e w6 ⟨rfl, hb⟩
  refine ⟨_, rfl, ?_⟩
  have HE2 := ak (HE.out.below hb)
  have HK2 := ak (HK.out.trans (KC.of_below hb) : KC nb W1 w6)
  have HF2 := ak (keepsFrom_of_below HF.out hb)
  clear HE HK HF hb
  have HE := HE2
  have HK := HK2
  have HF := HF2
  clear HE2 HK2 HF2
  refine hK.out _ _ ⟨(blk_cell HE.out.bf 0).trans rfl, (blk_cell HE.out.bl 0).trans rfl, (blk_cell HE.out.br 0).trans rfl⟩ (fun hHeld => ?_)
  clear hK K
  refine norm_ (a' := ?_) ?_ ?_
  rotate_left
  ·show Act.put _ (some 43) _ = _
   simp only [Act.put, s1_, s2_, s3_, i64_w, i32_w]
   rfl
  refine pq_ 14 44 15 32767 HT_.out ?_
  refine done_ (done_of HT_.out (by kernel_rfl)) ?_
  show Code.wpIn _ _ _ _ _ _ _
  by_cases h0 : t2 = t4
  ·have hd : (t2 == t4) = true := beq_iff_eq.2 h0
   have on := HON.out
   rw [if_pos h0] at on
   have hcn : w6.cell? ⟨nb, 0, none⟩ = some (.int .i64 n) := (blk_cell HE.out.bn 0).trans rfl
   have hfn := blk_frozen HE.out.bn 0
   clear h0
   gi_wp2
   exact ⟨keepsFrom_setAny HF.out HE.out.bn 0 _, ⟨HK.out.set _, keepsFrom_setAny (keepsFrom_mono HF.out (by have := HS0.out; omega)) HE.out.bn 0 _⟩, wrap64 (n + 1), HE.out.put _ on hnw⟩
  have hd : (t2 == t4) = false := beq_eq_false_iff_ne.2 h0
  have on := HON.out
  rw [if_neg h0] at on
  clear h0
  gi_wp2
  exact ⟨HF.out, ⟨HK.out, keepsFrom_mono HF.out (by have := HS0.out; omega)⟩, n, on, HE.out.bf, HE.out.bl, HE.out.br, HE.out.bn, HE.out.bel⟩
 case done =>
  rintro D W1 hD ⟨n, hB⟩ hK
  have on := hB.on
  rw [prs_length, List.drop_of_length_le (by simp)] at on
  obtain rfl : n = r := Option.some.inj on
  have hcn : W1.cell? ⟨nb, 0, none⟩ = some (.int .i64 n) := (blk_cell hB.bn 0).trans rfl
  gi_wp2
  refine ⟨by simp, .inl ⟨_, _, rfl, run_takeDeferred hK, ?_⟩⟩
  refine ⟨_, results_tmp2 rfl _ _ _, rfl, ?_⟩
  exact hB.bel.grown (grownBy_putObj' W1 D _) hB.bel.size (fun b e => by cases e; omega)
theorem P_range {f P : Int} (h : field_P.f f = some P) : 0 ≤ P ∧ P ≤ 4294967296 := by
 have hq : P = pOf f := by simpa [field_P.f] using h.symm
 rw [hq]
 unfold pOf
 repeat' split
 all_goals omega
set_option maxRecDepth 100000 in
set_option maxHeartbeats 4000000 in
theorem gap_Equal.calls (k : Nat) (a0 : Int) (A1 : Option Addr) (c1 : Nat) (l1 : List (List Int)) (A2 : Option Addr) (c2 : Nat) (l2 : List (List Int)) (r1 : Int) (r2 : Int) (w : World) (hG : Fld w) (hr1 : Kd.C (Kd.slice 48 (Kd.int .u64)) w A1 l1.length l1) (hc1 : l1.length ≤ c1) (hr2 : Kd.C (Kd.slice 48 (Kd.int .u64)) w A2 l2.length l2) (hc2 : l2.length ≤ c2) (h : gap_Equal.f k a0 l1 l2 = some (r1, r2)) :
  Calls Tryd.prog 22 #[.int .i64 a0, .slice A1 l1.length c1, .slice A2 l2.length c2] w fun e w' => e = .returned (.tuple #[.int .i64 r1, .int .i64 r2]) ∧ Below w.heap.size w w' := by
 have HG := ak hG
 have HR1 := ak hr1
 have HR2 := ak hr2
 clear hG hr1 hr2
 unfold gap_Equal.f at h
 obtain ⟨e, he, h⟩ := Option.bind_eq_some_iff.1 h
 have HV := ak he
 clear he
 cases q1 : ((l1.length : Int) != (l2.length : Int)) with
 | true =>
  rw [q1, if_pos rfl] at h
  simp only [Option.some.injEq, Prod.mk.injEq] at h
  obtain ⟨rfl, rfl⟩ := h
  have HX := ak (Kd.C_alloc (Kd.C_alloc (Kd.C_alloc HR1.out _) _) _ : Kd.C (Kd.slice 48 (Kd.int .u64)) (((w.alloc (.cells #[.int .i64 a0] 3)).alloc (.cells #[.slice A1 l1.length c1] 42)).alloc (.cells #[.slice A2 l2.length c2] 42)) A1 l1.length l1)
  have HY := ak (Kd.C_alloc (Kd.C_alloc (Kd.C_alloc HR2.out _) _) _ : Kd.C (Kd.slice 48 (Kd.int .u64)) (((w.alloc (.cells #[.int .i64 a0] 3)).alloc (.cells #[.slice A1 l1.length c1] 42)).alloc (.cells #[.slice A2 l2.length c2] 42)) A2 l2.length l2)
  have HZ := ak (below_alloc (below_alloc (below_alloc (Below.refl _ _) _) _) _ : Below w.heap.size w (((w.alloc (.cells #[.int .i64 a0] 3)).alloc (.cells #[.slice A1 l1.length c1] 42)).alloc (.cells #[.slice A2 l2.length c2] 42)))
  have HQ := ak (show (((w.alloc (.cells #[.int .i64 a0] 3)).alloc (.cells #[.slice A1 l1.length c1] 42)).alloc (.cells #[.slice A2 l2.length c2] 42)).heap[w.heap.size + 1]? = some (.cells #[.slice A1 l1.length c1] 42 (0, 0)) ∧ (((w.alloc (.cells #[.int .i64 a0] 3)).alloc (.cells #[.slice A1 l1.length c1] 42)).alloc (.cells #[.slice A2 l2.length c2] 42)).heap[w.heap.size + 1 + 1]? = some (.cells #[.slice A2 l2.length c2] 42 (0, 0)) from ⟨blk_alloc (al_new_ _ _ _ (by simp)) _, al_new_ _ _ _ (by simp)⟩)
  go_enter Tryd.func22, Tryd.ntmps22
  go_wp2_with (go_at_call 65; refine (gap_tuples.calls a0 A1 c1 l1 A2 c2 l2 e _ HX.out hc1 HY.out hc2 HV.out).mono ?_; rintro e wt ⟨rfl, hb⟩; have HBT := ak (below_step HZ.out hb); have hq1 : wt.cell? ⟨w.heap.size + 1, 0, none⟩ = some (.slice A1 l1.length c1) := (blk_cell (blk_below HQ.out.1 hb) 0).trans rfl; have hq2 : wt.cell? ⟨w.heap.size + 1 + 1, 0, none⟩ = some (.slice A2 l2.length c2) := (blk_cell (blk_below HQ.out.2 hb) 0).trans rfl; clear hb HX HY HZ HQ)
  go_ret2
  exact ⟨rfl, HBT.out⟩
 | false =>
  rw [q1, if_neg (by decide)] at h
  cases q2 : (e != 0) with
  | true =>
   rw [q2, if_pos rfl] at h
   simp only [Option.some.injEq, Prod.mk.injEq] at h
   obtain ⟨rfl, rfl⟩ := h
   have HX := ak (Kd.C_alloc (Kd.C_alloc (Kd.C_alloc HR1.out _) _) _ : Kd.C (Kd.slice 48 (Kd.int .u64)) (((w.alloc (.cells #[.int .i64 a0] 3)).alloc (.cells #[.slice A1 l1.length c1] 42)).alloc (.cells #[.slice A2 l2.length c2] 42)) A1 l1.length l1)
   have HY := ak (Kd.C_alloc (Kd.C_alloc (Kd.C_alloc HR2.out _) _) _ : Kd.C (Kd.slice 48 (Kd.int .u64)) (((w.alloc (.cells #[.int .i64 a0] 3)).alloc (.cells #[.slice A1 l1.length c1] 42)).alloc (.cells #[.slice A2 l2.length c2] 42)) A2 l2.length l2)
   have HZ := ak (below_alloc (below_alloc (below_alloc (Below.refl _ _) _) _) _ : Below w.heap.size w (((w.alloc (.cells #[.int .i64 a0] 3)).alloc (.cells #[.slice A1 l1.length c1] 42)).alloc (.cells #[.slice A2 l2.length c2] 42)))
   have HQ := ak (show (((w.alloc (.cells #[.int .i64 a0] 3)).alloc (.cells #[.slice A1 l1.length c1] 42)).alloc (.cells #[.slice A2 l2.length c2] 42)).heap[w.heap.size + 1]? = some (.cells #[.slice A1 l1.length c1] 42 (0, 0)) ∧ (((w.alloc (.cells #[.int .i64 a0] 3)).alloc (.cells #[.slice A1 l1.length c1] 42)).alloc (.cells #[.slice A2 l2.length c2] 42)).heap[w.heap.size + 1 + 1]? = some (.cells #[.slice A2 l2.length c2] 42 (0, 0)) from ⟨blk_alloc (al_new_ _ _ _ (by simp)) _, al_new_ _ _ _ (by simp)⟩)
   go_enter Tryd.func22, Tryd.ntmps22
   go_wp2_with (go_at_call 65; refine (gap_tuples.calls a0 A1 c1 l1 A2 c2 l2 e _ HX.out hc1 HY.out hc2 HV.out).mono ?_; rintro e wt ⟨rfl, hb⟩; have HBT := ak (below_step HZ.out hb); have hq1 : wt.cell? ⟨w.heap.size + 1, 0, none⟩ = some (.slice A1 l1.length c1) := (blk_cell (blk_below HQ.out.1 hb) 0).trans rfl; have hq2 : wt.cell? ⟨w.heap.size + 1 + 1, 0, none⟩ = some (.slice A2 l2.length c2) := (blk_cell (blk_below HQ.out.2 hb) 0).trans rfl; clear hb HX HY HZ HQ)
   go_ret2
   exact ⟨rfl, HBT.out⟩
  | false =>
   rw [q2, if_neg (by decide)] at h
   obtain rfl : e = 0 := by simpa using q2
   obtain ⟨P, hP, h⟩ := Option.bind_eq_some_iff.1 h
   obtain ⟨n, hn, h⟩ := Option.bind_eq_some_iff.1 h
   simp only [Option.some.injEq, Prod.mk.injEq] at h
   obtain ⟨rfl, rfl⟩ := h
   have hp0 := P_range hP
   have ep : ((P.toNat : Nat) : Int) = P := Int.toNat_of_nonneg hp0.1
   exact gap_Equal_main k a0 A1 c1 l1 A2 c2 l2 n w HG HR1 hc1 HR2 hc2 HV q1 P.toNat ⟨by rw [ep]; exact hP⟩ (by omega) ⟨hn⟩
end

end Go.Proofs.YtbjeemlbjkmhiaaDoor.Q

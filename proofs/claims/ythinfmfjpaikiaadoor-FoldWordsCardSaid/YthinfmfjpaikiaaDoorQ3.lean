import Derived.Test.YthinfmfjpaikiaaDoorQ0
import Derived.Test.YthinfmfjpaikiaaDoorQ1
import Derived.Test.YthinfmfjpaikiaaDoorQ2
namespace Go.Proofs.YthinfmfjpaikiaaDoor.Q
open Go.RowKit Go.Proofs.YthinfmfjpaikiaaDoorW.PrintWords Go.Proofs.YthinfmfjpaikiaaDoorW.PrintLast Go.Proofs.YthinfmfjpaikiaaDoorW.PrintMore
open Kd (R_below R_lower R_new' R_elder' R_base R_lt R_slice R_reads' R_lit R_make C_below R_drew)
attribute [local go_sem] max2_int min2_int max_two min_two max_three min_three max_four min_four   -- for this text's walks alone
set_option linter.unusedVariables false
set_option linter.unusedSimpArgs false

attribute [local go_sem high] eqA24
mutual
def transform_butterflies.f : Nat → Int → List Int → Int → Option (List Int)
 | 0, _, _, _ => none
 | k + 1, f, l, w => if l.length = 1 then some l else (field_Mul.f f w w).bind fun sq => (transform_butterflies.f k f (l.take (l.length / 2)) sq).bind fun lo => (transform_butterflies.f k f (l.drop (l.length / 2)) sq).bind fun hi => transform_butterflies.l0 k f w (l.length / 2) lo hi 1 0
def transform_butterflies.l0 : Nat → Int → Int → Nat → List Int → List Int → Int → Nat → Option (List Int)
 | 0, _, _, _, _, _, _, _ => none
 | k + 1, f, w, h, lo, hi, pw, i => if i < h then (field_Mul.f f pw (bco hi i)).bind fun t => (field_Add.f f (bco lo i) t).bind fun a => (field_Sub.f f (bco lo i) t).bind fun b => (field_Mul.f f pw w).bind fun p' => transform_butterflies.l0 k f w h (lo.set i a) (hi.set i b) p' (i + 1) else some (lo ++ hi)
end
theorem bf_len : ∀ k, (∀ f l w r, transform_butterflies.f k f l w = some r → r.length = l.length) ∧ (∀ f w h lo hi pw i r, transform_butterflies.l0 k f w h lo hi pw i = some r → r.length = lo.length + hi.length)
 | 0 => ⟨fun _ _ _ _ h => by simp [transform_butterflies.f] at h, fun _ _ _ _ _ _ _ _ h => by simp [transform_butterflies.l0] at h⟩
 | k + 1 => by
  obtain ⟨ih1, ih2⟩ := bf_len k
  refine ⟨fun f l w r h => ?_, fun f w m lo hi pw i r h => ?_⟩
  ·rw [transform_butterflies.f] at h
   split at h
   ·obtain rfl := Option.some.inj h; rfl
   obtain ⟨sq, _, h⟩ := Option.bind_eq_some_iff.mp h
   obtain ⟨lo, h1, h⟩ := Option.bind_eq_some_iff.mp h
   obtain ⟨hi, h2, h⟩ := Option.bind_eq_some_iff.mp h
   rw [ih2 _ _ _ _ _ _ _ _ h, ih1 _ _ _ _ h1, ih1 _ _ _ _ h2, List.length_take, List.length_drop]
   omega
  rw [transform_butterflies.l0] at h
  split at h
  ·obtain ⟨t, _, h⟩ := Option.bind_eq_some_iff.mp h
   obtain ⟨x, _, h⟩ := Option.bind_eq_some_iff.mp h
   obtain ⟨y, _, h⟩ := Option.bind_eq_some_iff.mp h
   obtain ⟨z, _, h⟩ := Option.bind_eq_some_iff.mp h
   rw [ih2 _ _ _ _ _ _ _ _ h]; simp
  obtain rfl := Option.some.inj h; simp
theorem bf_nil (f w : Int) : ∀ k, transform_butterflies.f k f [] w = none
 | 0 => by simp [transform_butterflies.f]
 | k + 1 => by
  rw [transform_butterflies.f, if_neg (by simp)]
  simp [bf_nil _ _ k]
set_option maxRecDepth 100000 in
set_option maxHeartbeats 4000000 in
theorem transform_butterflies.calls : ∀ (k : Nat) (a0 : Int) (B off n cap : Nat) (l : List Int) (a2 : Int) (r : List Int) (w : World) (_ : Fld w) (_ : NoTab B) (_ : Part w B off l) (_ : l.length = n) (_ : n ≤ cap) (_ : cap ≤ 9223372036854775807) (_ : transform_butterflies.f k a0 l a2 = some r),
  Calls Tryd.prog 82 #[.int .i64 a0, .slice (some ⟨B, off, none⟩) n cap, .int .u64 a2] w fun e w' => e = .returned (.tuple #[]) ∧ Turn B off r w w'
 | 0, a0, B, off, n, cap, l, a2, r, w, hG, hT, hP, hn, hc, hm, h => by simp [transform_butterflies.f] at h
 | k + 1, a0, B, off, n, cap, l, a2, r, w, hG, hT, hP, hn, hc, hm, h => by
  have HG := ak hG
  have HP := ak hP
  have HNT := ak hT
  clear hT
  have HN := ak hn
  clear hP hG
  by_cases c1 : n = 1
  ·have c1b : ((n : Int) == 1) = true := by simp; omega
   obtain rfl : l = r := by
    rw [transform_butterflies.f, if_pos (by omega)] at h
    exact Option.some.inj h
   clear h hn
   go_enter Tryd.func82, Tryd.ntmps82
   go_wp2
   exact bodyPost_ret (v := .tuple #[]) (by simp [results, Tryd.results82, go_sem]) rfl ⟨rfl, Turn.of_below HP.out (Below.refl _ _)⟩
  have c1b : ((n : Int) == 1) = false := by simp; omega
  rw [transform_butterflies.f, if_neg (by omega)] at h
  have hL : 2 ≤ n := by
   rcases Nat.eq_zero_or_pos n with q | q
   ·have : l = [] := List.eq_nil_of_length_eq_zero (by omega)
    subst this
    simp [bf_nil] at h
   omega
  rw [hn] at h
  obtain ⟨sq, hsq, h⟩ := Option.bind_eq_some_iff.mp h
  obtain ⟨lo, hlo, h⟩ := Option.bind_eq_some_iff.mp h
  obtain ⟨hi, hhi, h⟩ := Option.bind_eq_some_iff.mp h
  have n1 : lo.length = n / 2 := by rw [(bf_len k).1 _ _ _ _ hlo, List.length_take]; omega
  have n2 : hi.length = n - n / 2 := by rw [(bf_len k).1 _ _ _ _ hhi, List.length_drop]; omega
  have HSQ := ak hsq
  have HLO := ak hlo
  have HHI := ak hhi
  have HL0 := ak h
  have N1 := ak n1
  have N2 := ak n2
  clear hsq hlo hhi h n1 n2 hn
  have b1 : 0 ≤ (n : Int) / 2 := by omega
  have b2 : (n : Int) / 2 ≤ (cap : Int) := by omega
  have b3 : (n : Int) / 2 ≤ max ((n : Int) / 2) 0 := by omega
  have b4 : (n : Int) / 2 ≤ (n : Int) := by omega
  have b5 : (n : Int) ≤ (cap : Int) := by omega
  have b6 : ¬ n = n / 2 := by omega
  have t1 : ((n : Int) / 2).toNat = n / 2 := by omega
  have q1 : wrap64 ((n : Int) / 2) = (n : Int) / 2 := by unfold wrap64; omega
  go_enter Tryd.func82, Tryd.ntmps82
  go_wp2
  refine start_ (n := 14) (S := fun w' => True) (ds := []) (bv 14 0) (by kernel_rfl) rfl rfl trivial (fun hHeld => ?_)
  have HB := ak (below_drew1 (Below.refl w.heap.size w))
  have HT_ : Aside0 (rtab .any (opsOf Tryd.f82 2) = rtab .any (opsOf Tryd.f82 2)) := ⟨rfl⟩
  refine pq_ 0 17 14 1 HT_.out ?_
  refine pq_ 1 18 14 3 HT_.out ?_
  refine pq_ 2 19 14 7 HT_.out ?_
  refine pq_ 3 20 14 15 HT_.out ?_
  refine pq_ 4 21 14 31 HT_.out ?_
  refine pr_ (i := 5) (N := some 22) (v := .slice (some ⟨B, off, none⟩) (n / 2) (n / 2)) (a' := ?_) (bv 14 63) HT_.out ?_ ?_ ?_; rotate_left 1
  ·intro w'
   go_simp
  ·simp only [Act.put, s1_, s2_, s3_]
   rfl
  refine pq_ 6 23 14 127 HT_.out ?_
  refine pq_ 7 24 14 255 HT_.out ?_
  refine pq_ 8 25 14 511 HT_.out ?_
  refine pq_ 9 26 14 1023 HT_.out ?_
  refine pq_ 10 27 14 2047 HT_.out ?_
  refine pr_ (i := 11) (N := some 28) (v := .slice (some ⟨B, off + n / 2, none⟩) (n - n / 2) (n - n / 2)) (a' := ?_) (bv 14 4095) HT_.out ?_ ?_ ?_; rotate_left 1
  ·intro w'
   go_simp
  ·simp only [Act.put, s1_, s2_, s3_]
   rfl
  refine pq_ 12 7 14 8191 HT_.out ?_
  refine pq_ 13 8 14 16383 HT_.out ?_
  refine done_ (done_of HT_.out (by kernel_rfl)) ?_
  generalize w.drew = w0 at HB ⊢
  go_wp2_with (first | ((with_reducible refine gate_callee (f := 19) rfl ?_); refine gl_ (some 32) Tryd.func19 #[.int .i64 a0, .int .u64 a2, .int .u64 a2] ?_; (with_reducible refine (field_Mul.calls a0 a2 a2 sq _ ?side1 HSQ.out).mono ?_); (case side1 => exact fU_ HG.out HB.out); rintro e w1 ⟨rfl, hb⟩; refine ⟨_, rfl, ?_⟩; refine nx1_ (below_step (bU_ HB.out) hb) ?_; clear HB; intro HB; clear hb; have T0 := ak (Turn.of_below HP.out HB.out)) | ((with_reducible refine gate_callee (f := 82) rfl ?_); refine gl_ (some 36) Tryd.func82 #[.int .i64 a0, .slice (some ⟨B, off, none⟩) (n / 2) (n / 2), .int .u64 sq] ?_; refine (transform_butterflies.calls k a0 B off (n / 2) (n / 2) (l.take (n / 2)) sq lo _ (HG.out.turn T0.out HNT.out) HNT.out (T0.out.now.sub0 (by rw [List.length_take]; omega) (fun i hi => bco_take hi)) (by have := HN.out; rw [List.length_take]; omega) (Nat.le_refl _) (by omega) HLO.out).mono ?_; rintro e w2 ⟨rfl, u1⟩; refine ⟨_, rfl, ?_⟩; have T1 := ak (T0.out.low u1 HN.out N1.out (by omega))) | ((with_reducible refine gate_callee (f := 82) rfl ?_); refine gl_ (some 40) Tryd.func82 #[.int .i64 a0, .slice (some ⟨B, off + n / 2, none⟩) (n - n / 2) (n - n / 2), .int .u64 sq] ?_; refine (transform_butterflies.calls k a0 B (off + n / 2) (n - n / 2) (n - n / 2) (l.drop (n / 2)) sq hi _ (HG.out.turn T1.out HNT.out) HNT.out (T1.out.now.sub (by have := HN.out; have := N1.out; rw [List.length_append, List.length_drop]; omega) (fun _ _ => bco_app N1.out)) (by have := HN.out; rw [List.length_drop]; omega) (Nat.le_refl _) (by omega) HHI.out).mono ?_; rintro e w3 ⟨rfl, u2⟩; refine ⟨_, rfl, ?_⟩; have T2 := ak (T1.out.high u2 HN.out N1.out N2.out)))
  clear T0 T1 u1 u2 HHI HLO HSQ HT_ HP HB
  have H' := HL0
  clear HL0
  go_loopg [10, 43] k (fun kq v10 v43 w' => ∃ (pw : Int) (i : Nat) (lo' hi' : List Int), v10 = .int .u64 pw ∧ v43 = .int .i64 (i : Int) ∧ Aside0 (transform_butterflies.l0 kq a0 a2 (n / 2) lo' hi' pw i = some r) ∧ Aside0 (kq ≤ k) ∧ Aside0 (lo'.length = n / 2 ∧ hi'.length = n - n / 2) ∧ Aside0 (Turn B off (lo' ++ hi') w w'))
  case atStart => exact ⟨1, 0, lo, hi, rfl, rfl, H', ⟨Nat.le_refl _⟩, ⟨N1.out, N2.out⟩, T2⟩
  case round =>
   clear H' T2 N1 N2
   obtain ⟨pw, i, lo', hi', rfl, rfl, HA, HK, HLN, T⟩ := hrel
   cases gk with
   | zero => exact absurd HA.out (by simp [transform_butterflies.l0])
   | succ k1 =>
    have H := HA.out
    clear HA
    rw [transform_butterflies.l0] at H
    by_cases c2 : i < n / 2
    ·rw [if_pos c2] at H
     obtain ⟨t, ht, H⟩ := Option.bind_eq_some_iff.mp H
     obtain ⟨x, hx, H⟩ := Option.bind_eq_some_iff.mp H
     obtain ⟨y, hy, H⟩ := Option.bind_eq_some_iff.mp H
     obtain ⟨z, hz, H⟩ := Option.bind_eq_some_iff.mp H
     have A1 := ak ht
     have A2 := ak hx
     have A3 := ak hy
     have A4 := ak hz
     have H' := ak H
     clear ht hx hy hz H
     have e1 : decide ((i : Int) < (n : Int) / 2) = true := by simp; omega
     have e2 : (i : Int) < ((n - n / 2 : Nat) : Int) := by omega
     have e3 : (i : Int) < (n : Int) / 2 := by omega
     have e4 : (((i : Int) < (n : Int) / 2)) = True := eq_true e3
     have hc1 : wr.cell? ⟨B, off + n / 2 + i, none⟩ = some (.int .u64 (bco hi' i)) := by
      have := T.out.now.cell (i := n / 2 + i) (by have := HLN.out; simp; omega)
      rw [← Nat.add_assoc, ← bco_right HLN.out.1] at this
      exact this
     go_wp2_with ((with_reducible refine gate_callee (f := 19) rfl ?_); refine gl_ (some 52) Tryd.func19 #[.int .i64 a0, .int .u64 pw, .int .u64 (bco hi' i)] ?_; (with_reducible refine (field_Mul.calls a0 pw (bco hi' i) t _ ?side1 A1.out).mono ?_); (case side1 => exact HG.out.turn T.out HNT.out); rintro e w5 ⟨rfl, hb⟩; refine ⟨_, rfl, ?_⟩; refine nx1_ (T.out.below hb) ?_; clear T; intro T; clear hb hc1)
     refine start_ (n := 22) (S := fun w' => w'.cell? ⟨B, off + i, none⟩ = some (.int .u64 (bco lo' i))) (ds := [19, 21]) (bv 22 0) (by kernel_rfl) rfl rfl (low_cell (T.out.below (below_drew1 (Below.refl _ _))) HLN.out.1 c2) (fun hHeld => ?_)
     have HT_ : Aside0 (rtab .any (opsOf Tryd.f82 11) = rtab .any (opsOf Tryd.f82 11)) := ⟨rfl⟩
     have T' := ak (T.out.below (below_drew1 (Below.refl _ _)))
     clear T
     have T := T'
     clear T'
     generalize w5.drew = w6 at T hHeld ⊢
     refine pq_ 0 53 22 1 HT_.out ?_
     refine pq_ 1 54 22 3 HT_.out ?_
     refine pq_ 2 55 22 7 HT_.out ?_
     refine pq_ 3 56 22 15 HT_.out ?_
     refine pq_ 4 57 22 31 HT_.out ?_
     refine pq_ 5 58 22 63 HT_.out ?_
     refine pq_ 6 59 22 127 HT_.out ?_
     refine pq_ 7 60 22 255 HT_.out ?_
     refine take_ (i := 8) (N := some 61) (v := ?_) (a' := ?_) (bv 22 511) rfl rfl (take_of HT_.out (by kernel_rfl)) (fun _ _ _ h => h) (Or.inl ⟨by rfl, ?_⟩) hHeld ?_ ?_
     rotate_left
     ·intro w' s0
      go_simp
      with_reducible rfl
     rotate_left
     ·simp only [Act.put, s1_, s2_, s3_, i64_w, i32_w]
      rfl
     refine pq_ 9 62 22 1023 HT_.out ?_
     refine pq_ 11 64 22 3071 HT_.out ?_
     refine pq_ 12 65 22 7167 HT_.out ?_
     refine pq_ 13 66 22 15359 HT_.out ?_
     refine pq_ 14 67 22 31743 HT_.out ?_
     refine take_ (i := 15) (N := some 68) (v := ?_) (a' := ?_) (bv 22 64511) rfl rfl (take_of HT_.out (by kernel_rfl)) (fun _ _ _ h => h) (Or.inl ⟨by rfl, ?_⟩) hHeld ?_ ?_
     rotate_left
     ·intro w' s0
      go_simp
      with_reducible rfl
     rotate_left
     ·simp only [Act.put, s1_, s2_, s3_, i64_w, i32_w]
      rfl
     refine pq_ 16 69 22 130047 HT_.out ?_
     refine oq_ 10 63 22 131071 HT_.out fun K hK => ?_
     refine gs_ Tryd.func18 #[.int .i64 a0, .int .u64 (bco lo' i), .int .u64 t] ?_
     with_reducible refine (field_Add.calls a0 (bco lo' i) t x _ ?side1 A2.out).mono ?_
     (case side1 => exact HG.out.turn T.out HNT.out)
     rintro e w5 ⟨rfl, hb⟩
     refine ⟨_, rfl, ?_⟩
     refine nx1_ (T.out.below hb) ?_
     clear T
     intro T
     clear hb
     refine hK.out _ _ (low_cell T.out HLN.out.1 c2) (fun hHeld => ?_)
     clear hK K
     refine norm_ (a' := ?_) ?_ ?_
     rotate_left
     ·show Act.put _ (some 63) _ = _
      simp only [Act.put, s1_, s2_, s3_, i64_w, i32_w]
      rfl
     refine oq_ 17 70 22 262143 HT_.out fun K hK => ?_
     refine gs_ Tryd.func93 #[.int .i64 a0, .int .u64 (bco lo' i), .int .u64 t] ?_
     with_reducible refine (field_Sub.calls a0 (bco lo' i) t y _ ?side1 A3.out).mono ?_
     (case side1 => exact HG.out.turn T.out HNT.out)
     rintro e w5 ⟨rfl, hb⟩
     refine ⟨_, rfl, ?_⟩
     refine nx1_ (T.out.below hb) ?_
     clear T
     intro T
     clear hb
     refine hK.out _ _ (low_cell T.out HLN.out.1 c2) (fun hHeld => ?_)
     clear hK K
     refine norm_ (a' := ?_) ?_ ?_
     rotate_left
     ·show Act.put _ (some 70) _ = _
      simp only [Act.put, s1_, s2_, s3_, i64_w, i32_w]
      rfl
     refine pq_ 18 71 22 524287 HT_.out ?_
     have cz := high_cell T.out HLN.out.1 (show i < hi'.length by have := HLN.out; omega)
     have fz := T.out.now.frozen (off + i)
     refine last_ (i := 19) (N := none) (bv 22 1048575) rfl rfl (one_of HT_.out (by kernel_rfl)) (by decide) (fun K hK => ?_)
     refine skip_ (w1 := ?_) (by rfl) rfl ?_ ?_
     rotate_left
     ·go_simp
      rfl
     refine hK.out _ _ ?_
     clear hK K fz
     have T' := ak (T.out.put (i := i) (by have := HLN.out; rw [List.length_append]; omega) x)
     clear T
     have T := T'
     clear T'
     refine pq_ 20 72 22 2097151 HT_.out ?_
     have fz := T.out.now.frozen (off + n / 2 + i)
     refine last_ (i := 21) (N := none) (bv 22 4194303) rfl rfl (one_of HT_.out (by kernel_rfl)) (by decide) (fun K hK => ?_)
     refine skip_ (w1 := ?_) (by rfl) rfl ?_ ?_
     rotate_left
     ·go_simp
      rfl
     refine hK.out _ _ ?_
     clear hK K fz
     have T' := ak (T.out.put2 (i := i) (m := n / 2) (by have := HLN.out; rw [List.length_set, List.length_append]; omega) y)
     clear T
     have T := T'
     clear T'
     refine done_ (done_of HT_.out (by kernel_rfl)) ?_
     go_wp2_with ((with_reducible refine gate_callee (f := 19) rfl ?_); refine gl_ (some 76) Tryd.func19 #[.int .i64 a0, .int .u64 pw, .int .u64 a2] ?_; (with_reducible refine (field_Mul.calls a0 pw a2 z _ ?side1 A4.out).mono ?_); (case side1 => exact HG.out.turn T.out HNT.out); rintro e w7 ⟨rfl, hb⟩; refine ⟨_, rfl, ?_⟩; refine nx1_ (T.out.below hb) ?_; clear T; intro T; clear hb)
     go_roundg k1
     case measure => have := HK.out; omega
     case rel => exact ⟨z, i + 1, lo'.set i x, hi'.set i y, rfl, by simp, H', ⟨by have := HK.out; omega⟩, ⟨by have := HLN.out; simp; omega⟩, ⟨by rw [← set_two HLN.out.1 c2]; exact T.out⟩⟩
    rw [if_neg c2] at H
    obtain rfl := Option.some.inj H
    have e1 : decide ((i : Int) < (n : Int) / 2) = false := by simp; omega
    go_wp2
    go_end0
    exact ⟨rfl, T.out⟩
theorem transform_butterflies.mono_l : ∀ k, (∀ f l w, LeO (transform_butterflies.f k f l w) (transform_butterflies.f (k + 1) f l w)) ∧ (∀ f w h lo hi pw i, LeO (transform_butterflies.l0 k f w h lo hi pw i) (transform_butterflies.l0 (k + 1) f w h lo hi pw i))
 | 0 => ⟨fun _ _ _ r h => by simp [transform_butterflies.f] at h, fun _ _ _ _ _ _ _ r h => by simp [transform_butterflies.l0] at h⟩
 | k + 1 => by
  obtain ⟨ih1, ih2⟩ := transform_butterflies.mono_l k
  refine ⟨fun f l w => ?_, fun f w h lo hi pw i => ?_⟩
  ·rw [transform_butterflies.f, transform_butterflies.f]
   exact LeO.ite (LeO.refl _) (LeO.bind (LeO.refl _) fun _ => LeO.bind (ih1 _ _ _) fun _ => LeO.bind (ih1 _ _ _) fun _ => ih2 _ _ _ _ _ _ _)
  rw [transform_butterflies.l0, transform_butterflies.l0]
  exact LeO.ite (LeO.bind (LeO.refl _) fun _ => LeO.bind (LeO.refl _) fun _ => LeO.bind (LeO.refl _) fun _ => LeO.bind (LeO.refl _) fun _ => ih2 _ _ _ _ _ _ _) (LeO.refl _)
theorem transform_butterflies.mono : ∀ a0 l a2 k, LeO (transform_butterflies.f k a0 l a2) (transform_butterflies.f (k + 1) a0 l a2) := fun a0 l a2 k => (transform_butterflies.mono_l k).1 a0 l a2
theorem transform_butterflies.callsR (k : Nat) (a0 : Int) (e base : Nat) (ok : Nat → Prop) (v0 : Value) (l : List Int) (a2 : Int) (r : List Int) (w : World) (hG : Fld w) (hT : ∀ B, base ≤ B → NoTab B) (ho : Kd.R (Kd.int .u64) e w base ok v0 l) (h : transform_butterflies.f k a0 l a2 = some r) :
  Calls Tryd.prog 82 #[.int .i64 a0, v0, .int .u64 a2] w fun e' w' => e' = .returned (.tuple #[]) ∧ Kd.R (Kd.int .u64) e w' base ok v0 r ∧ Below base w w' := by
 have hp : 0 < l.length := by
  rcases Nat.eq_zero_or_pos l.length with q | q
  ·have : l = [] := List.eq_nil_of_length_eq_zero q
   subst this
   rw [bf_nil] at h; simp at h
  exact q
 obtain ⟨B, c, rfl, hb, _, _⟩ := Kd.R_form ho hp
 obtain ⟨p1, p2, p3, p4, _⟩ := R_part ho
 have hl := (bf_len k).1 _ _ _ _ h
 refine (transform_butterflies.calls k a0 B 0 l.length c l a2 r w hG (hT B hb) p1 rfl p3 ?_ h).mono ?_
 ·exact p4
 rintro e' w' ⟨rfl, T⟩
 exact ⟨rfl, R_turn ho T hl, T.belowB hb⟩

mutual
def field_Inv.j0 : Nat → Int → Int → Bool → Option (Int)
 | 0, _, _, _ => none
 | k + 1, x1, x5, x20 => if x20 = true then (some 0) else (if x5 = 0 then (none) else (field_Inv.l0 k x5 (wrap64 (x5)) (wrap64 (Int.tmod x1 x5)) 0 1))
def field_Inv.l0 : Nat → Int → Int → Int → Int → Int → Option (Int)
 | 0, _, _, _, _, _ => none
 | k + 1, x5, x6, x7, x8, x9 => if x7 = 0 then (if x8 < 0 then (some (IntKind.u64.wrap (wrap64 (x8 + (wrap64 (x5)))))) else (some (IntKind.u64.wrap (x8)))) else (field_Inv.l0 k x5 x7 (wrap64 (x6 - (wrap64 ((wrap64 (Int.tdiv x6 x7)) * x7)))) x9 (wrap64 (x8 - (wrap64 ((wrap64 (Int.tdiv x6 x7)) * x9)))))
end
def field_Inv.f (k : Nat) (a0 : Int) (a1 : Int) : Option (Int) := (field_P.f a0).bind fun t153 => (if t153 = 0 then (field_Inv.j0 k a1 t153 true) else (field_Inv.j0 k a1 t153 ((Int.tmod a1 t153) == 0)))
theorem field_Inv.mono_l : ∀ k, (∀ y0 y1 y2, LeO (field_Inv.j0 k y0 y1 y2) (field_Inv.j0 (k + 1) y0 y1 y2)) ∧ (∀ y0 y1 y2 y3 y4, LeO (field_Inv.l0 k y0 y1 y2 y3 y4) (field_Inv.l0 (k + 1) y0 y1 y2 y3 y4))
 | 0 => ⟨fun _ _ _ r h => by simp [field_Inv.j0] at h, fun _ _ _ _ _ r h => by simp [field_Inv.l0] at h⟩
 | k + 1 => by
  obtain ⟨ih0, ih1⟩ := field_Inv.mono_l k
  refine ⟨?_, ?_⟩
  ·intro y0 y1 y2
   unfold field_Inv.j0
   with_reducible repeat' first | apply ih0 | apply ih1 | exact LeO.refl _ | exact LeO.none _ | refine LeO.ite ?_ ?_ | refine LeO.bind ?_ (fun _ => ?_)
  intro y0 y1 y2 y3 y4
  unfold field_Inv.l0
  with_reducible repeat' first | apply ih0 | apply ih1 | exact LeO.refl _ | exact LeO.none _ | refine LeO.ite ?_ ?_ | refine LeO.bind ?_ (fun _ => ?_)
theorem field_Inv.mono : ∀ a0 a1 k, LeO (field_Inv.f k a0 a1) (field_Inv.f (k + 1) a0 a1) := by
 intro a0 a1 k
 obtain ⟨ih0, ih1⟩ := field_Inv.mono_l k
 unfold field_Inv.f
 with_reducible repeat' first | apply ih0 | apply ih1 | exact LeO.refl _ | exact LeO.none _ | refine LeO.ite ?_ ?_ | refine LeO.bind ?_ (fun _ => ?_)
set_option maxHeartbeats 8000000 in
set_option maxRecDepth 100000 in
theorem field_Inv.calls (k : Nat) (a0 : Int) (a1 : Int) (r : Int) (w : World) (hG : Fld w) (h : field_Inv.f k a0 a1 = some r) :
  Calls Tryd.prog 83 #[.int .i64 a0, .int .u64 a1] w fun e w' => e = .returned (.int .u64 r) ∧ Below w.heap.size w w' := by
 have HG := ak hG
 clear hG
 have HB := ak (Below.refl w.heap.size w)
 have H := h
 clear h
 unfold field_Inv.f at H
 revert H
 refine bd_ fun t153 A3 H => ?_
 have HC4 := ak H
 clear H
 go_enter Tryd.func83, Tryd.ntmps83
 go_upto_region 2 with (first | (go_at_call 52; (with_reducible refine (field_P.calls a0 t153 _ ?side1 A3.out).mono ?_); (case side1 => exact fU_ HG.out HB.out); rintro e w5 ⟨rfl, hb⟩; refine nx1_ (below_step (bU_ HB.out) hb) ?_; clear HB; intro HB; clear hb))
 repeat (go_quiet (first | (go_at_call 52; (with_reducible refine (field_P.calls a0 t153 _ ?side1 A3.out).mono ?_); (case side1 => exact fU_ HG.out HB.out); rintro e w5 ⟨rfl, hb⟩; refine nx1_ (below_step (bU_ HB.out) hb) ?_; clear HB; intro HB; clear hb)); go_upto_region 2 with (first | (go_at_call 52; (with_reducible refine (field_P.calls a0 t153 _ ?side1 A3.out).mono ?_); (case side1 => exact fU_ HG.out HB.out); rintro e w5 ⟨rfl, hb⟩; refine nx1_ (below_step (bU_ HB.out) hb) ?_; clear HB; intro HB; clear hb)))
 (try simp only [Act.put, s1_, s2_, s3_])
 go_cut [20] (fun v20 wc => ∃ (kq : Nat) (x20_3 : Bool), v20 = .bool x20_3 ∧ Aside0 (field_Inv.j0 kq a1 t153 x20_3 = some r) ∧ Aside0 (kq ≤ k) ∧ Aside0 (Below w.heap.size w wc))
 case first =>
  have H := HC4.out
  clear HC4
  by_cases c6 : t153 = 0
  ·rw [if_pos c6] at H
   have c6b0 := beq_iff_eq.mpr c6
   have c6b1 := bne_eq_false_iff_eq.mpr c6
   clear c6
   (first | rw [c6b0] | (simp only [i64_w, i32_w]; rw [c6b0]) | rw [c6b1] | skip)
   have H' := ak H
   clear H
   go_wp2
   repeat (go_quiet (fail); try go_wp2)
   go_meet
   case rel => exact ⟨_, (true), gb_, H', ⟨by first | omega | exact Nat.le_refl _⟩, ⟨bU_ HB.out⟩⟩
  rw [if_neg c6] at H
  have c6b0 := beq_eq_false_iff_ne.mpr c6
  have c6b1 := bne_iff_ne.mpr c6
  (first | rw [c6b0] | (simp only [i64_w, i32_w]; rw [c6b0]) | rw [c6b1] | skip)
  have H' := ak H
  clear H
  go_wp2
  repeat (go_quiet (fail); try go_wp2)
  go_meet
  case rel => exact ⟨_, (((Int.tmod a1 t153) == 0)), gb_, H', ⟨by first | omega | exact Nat.le_refl _⟩, ⟨bU_ HB.out⟩⟩
 case rest =>
  clear HC4
  (try clear p2); (try clear c6); (try clear c6b0); (try clear c6b1)
  obtain ⟨kq, x20_3, rfl, HA, HJ3, HB⟩ := hcut
  cases kq with
  | zero => exact absurd HA.out (by simp [field_Inv.j0])
  | succ kj3 =>
   have H := HA.out
   clear HA
   simp only [field_Inv.j0] at H
   by_cases c7 : x20_3 = true
   ·subst c7
    rw [if_pos rfl] at H
    obtain rfl := Option.some.inj H
    go_wp2
    repeat (go_quiet (fail); try go_wp2)
    go_ret
    exact ⟨eW_, bU_ HB.out⟩
   replace c7 := Bool.eq_false_iff.mpr c7
   subst c7
   rw [if_neg (show ¬ (false = true) by decide)] at H
   by_cases c8 : t153 = 0
   ·rw [if_pos c8] at H
    exact absurd H (by simp)
   rw [if_neg c8] at H
   have c8b0 := beq_eq_false_iff_ne.mpr c8
   have c8b1 := bne_iff_ne.mpr c8
   have H' := ak H
   clear H
   go_wp2
   repeat (go_quiet (fail); try go_wp2)
   go_loopg [6, 7, 8, 9] kj3 (fun kq v6 v7 v8 v9 w' => ∃ (x6_2 : Int) (x7_2 : Int) (x8_2 : Int) (x9_2 : Int), v6 = .int .i64 x6_2 ∧ v7 = .int .i64 x7_2 ∧ v8 = .int .i64 x8_2 ∧ v9 = .int .i64 x9_2 ∧ Aside0 (field_Inv.l0 kq t153 x6_2 x7_2 x8_2 x9_2 = some r) ∧ Aside0 (kq ≤ kj3) ∧ Aside0 (Below w.heap.size w w'))
   case atStart => exact ⟨(wrap64 (t153)), (wrap64 (Int.tmod a1 t153)), (0), (1), gb_, gb_, gb_, gb_, H', ⟨Nat.le_refl _⟩, ⟨bU_ HB.out⟩⟩
   case round =>
    clear H'
    (try clear p2); (try clear c6); (try clear c6b0); (try clear c6b1); (try clear p6); (try clear c7); (try clear c8); (try clear c8b0); (try clear c8b1)
    obtain ⟨x6_2, x7_2, x8_2, x9_2, rfl, rfl, rfl, rfl, HA, HK2, HB⟩ := hrel
    cases gk with
    | zero => exact absurd HA.out (by simp [field_Inv.l0])
    | succ k2 =>
     have H := HA.out
     clear HA
     simp only [field_Inv.l0] at H
     by_cases c9 : x7_2 = 0
     ·rw [if_pos c9] at H
      have c9b0 := beq_iff_eq.mpr c9
      have c9b1 := bne_eq_false_iff_eq.mpr c9
      clear c9
      by_cases c10 : x8_2 < 0
      ·rw [if_pos c10] at H
       have c10b0 := decide_eq_true c10
       clear c10
       obtain rfl := Option.some.inj H
       go_wp2
       repeat (go_quiet (fail); try go_wp2)
       go_ret
       exact ⟨eW_, bU_ HB.out⟩
      rw [if_neg c10] at H
      have c10b0 := decide_eq_false c10
      clear c10
      obtain rfl := Option.some.inj H
      go_wp2
      repeat (go_quiet (fail); try go_wp2)
      go_ret
      exact ⟨eW_, bU_ HB.out⟩
     rw [if_neg c9] at H
     have c9b0 := beq_eq_false_iff_ne.mpr c9
     have c9b1 := bne_iff_ne.mpr c9
     have H' := ak H
     clear H
     go_wp2
     repeat (go_quiet (fail); try go_wp2)
     go_roundg k2
     case measure => have := HJ3.out; have := HK2.out; omega
     case rel => exact ⟨(x7_2), (wrap64 (x6_2 - (wrap64 ((wrap64 (Int.tdiv x6_2 x7_2)) * x7_2)))), (x9_2), (wrap64 (x8_2 - (wrap64 ((wrap64 (Int.tdiv x6_2 x7_2)) * x9_2)))), gb_, gb_, gb_, gb_, H', ⟨by have := HJ3.out; have := HK2.out; omega⟩, ⟨bU_ HB.out⟩⟩

def transform_Coefficients.l0 : Nat → Int → List Int → Int → Int → Int → Int → Option (List Int × Int)
 | 0, _, _, _, _, _, _ => none
 | k + 1, x0, x10, x11, x12, x47, x48 => if x48 < x47 then (if 0 ≤ x48 then (if x48 < (x10.length : Int) then ((field_Mul.f x0 (rd x10 x48) x11).bind fun t165 => ((field_Mul.f x0 x11 x12).bind fun t167 => (transform_Coefficients.l0 k x0 (x10.set (x48 : Int).toNat t165) t167 x12 x47 (wrap64 (x48 + 1))))) else (none)) else (none)) else (some (x10, 0))
def transform_Coefficients.f (k : Nat) (a0 : Int) (a1 : Int) (l2 : List Int) : Option (List Int × Int) := (field_Reduce.f a0 a1).bind fun t154 => (if t154 = 0 then (some (([] : List Int), 1)) else ((transform_exponent.f k a0 (l2.length : Int)).bind fun bt155 => (if bt155.2 = true then ((transform_reordered.f k a0 l2).bind fun t157 => ((field_Root.f k a0 bt155.1).bind fun t160 => ((field_Inv.f k a0 t160).bind fun t161 => ((transform_butterflies.f k a0 t157 t161).bind fun t157 => ((field_Inv.f k a0 (IntKind.u64.wrap ((l2.length : Int)))).bind fun t162 => ((field_Inv.f k a0 a1).bind fun t163 => (transform_Coefficients.l0 k a0 t157 t162 t163 (t157.length : Int) 0))))))) else (some (([] : List Int), 2)))))
theorem transform_Coefficients.mono_l : ∀ k, (∀ y0 y1 y2 y3 y4 y5, LeO (transform_Coefficients.l0 k y0 y1 y2 y3 y4 y5) (transform_Coefficients.l0 (k + 1) y0 y1 y2 y3 y4 y5))
 | 0 => fun _ _ _ _ _ _ r h => by simp [transform_Coefficients.l0] at h
 | k + 1 => by
  have ih0 := transform_Coefficients.mono_l k
  ·intro y0 y1 y2 y3 y4 y5
   unfold transform_Coefficients.l0
   with_reducible repeat' first | apply ih0 | apply field_Inv.mono | apply field_Root.mono | apply transform_butterflies.mono | apply transform_exponent.mono | apply transform_reordered.mono | exact LeO.refl _ | exact LeO.none _ | refine LeO.ite ?_ ?_ | refine LeO.bind ?_ (fun _ => ?_)
theorem transform_Coefficients.mono : ∀ a0 a1 a2 k, LeO (transform_Coefficients.f k a0 a1 a2) (transform_Coefficients.f (k + 1) a0 a1 a2) := by
 intro a0 a1 a2 k
 have ih0 := transform_Coefficients.mono_l k
 unfold transform_Coefficients.f
 with_reducible repeat' first | apply ih0 | apply field_Inv.mono | apply field_Root.mono | apply transform_butterflies.mono | apply transform_exponent.mono | apply transform_reordered.mono | exact LeO.refl _ | exact LeO.none _ | refine LeO.ite ?_ ?_ | refine LeO.bind ?_ (fun _ => ?_)
set_option maxHeartbeats 8000000 in
set_option maxRecDepth 100000 in
theorem transform_Coefficients.calls (k : Nat) (a0 : Int) (a1 : Int) (A2 : Option Addr) (c2 : Nat) (l2 : List Int) (r1 : List Int) (r2 : Int) (w : World) (hG : Fld w) (hr2 : Kd.C (Kd.int .u64) w A2 l2.length l2) (hc2 : l2.length ≤ c2) (h : transform_Coefficients.f k a0 a1 l2 = some (r1, r2)) :
  Calls Tryd.prog 65 #[.int .i64 a0, .int .u64 a1, .slice A2 l2.length c2] w fun e w' => ∃ v0_ : Value, e = .returned (.tuple #[v0_, .int .i64 r2]) ∧ Kd.R (Kd.int .u64) 22 w' w.heap.size (fun _ => True) v0_ r1 ∧ Below w.heap.size w w' := by
 have HG := ak hG
 clear hG
 have HR2 := ak hr2
 have HC2 := ak hc2
 clear hr2 hc2
 have HB := ak (Below.refl w.heap.size w)
 have H := h
 clear h
 unfold transform_Coefficients.f at H
 revert H
 refine bd_ fun t154 A4 H => ?_
 by_cases c5 : t154 = 0
 ·rw [if_pos c5] at H
  have c5b0 := beq_iff_eq.mpr c5
  have c5b1 := bne_eq_false_iff_eq.mpr c5
  clear c5
  simp only [Option.some.injEq, Prod.mk.injEq] at H
  obtain ⟨rfl, rfl⟩ := H
  go_enter Tryd.func65, Tryd.ntmps65
  go_wp2_with (first | ((with_reducible refine gate_callee (f := 22) rfl ?_); refine gl_ (some 16) Tryd.func22 #[.int .i64 a0, .int .u64 a1] ?_; (with_reducible refine (field_Reduce.calls a0 a1 t154 _ ?side1 A4.out).mono ?_); (case side1 => exact fU_ HG.out HB.out); rintro e w6 ⟨rfl, hb⟩; refine ⟨_, rfl, ?_⟩; refine nx1_ (below_step (bU_ HB.out) hb) ?_; clear HB; intro HB; clear hb))
  go_ret2
  exact ⟨_, eW_, by first | exact Kd.R_nil _ _ _ _ _ | exact Kd.N_nil _ _ _ _ _ | exact Kd.V_nil _ _ _ _ _ | exact Kd.Q_nil _ _ _ _ _ | exact Kd.S_nil _ _ _ _ _, bU_ HB.out⟩
 rw [if_neg c5] at H
 have c5b0 := beq_eq_false_iff_ne.mpr c5
 have c5b1 := bne_iff_ne.mpr c5
 revert H
 refine bd2_ fun t155 t156 A7 H => ?_
 try dsimp only at H
 by_cases c8 : t156 = true
 ·subst c8
  rw [if_pos rfl] at H
  revert H
  refine bd_ fun t157 A9 H => ?_
  revert H
  refine bd_ fun t160 A10 H => ?_
  revert H
  refine bd_ fun t161 A11 H => ?_
  revert H
  refine bd_ fun t157n A12 H => ?_
  revert H
  refine bd_ fun t162 A13 H => ?_
  revert H
  refine bd_ fun t163 A14 H => ?_
  have H' := ak H
  clear H
  go_enter Tryd.func65, Tryd.ntmps65
  go_wp2_with (first | ((with_reducible refine gate_callee (f := 22) rfl ?_); refine gl_ (some 16) Tryd.func22 #[.int .i64 a0, .int .u64 a1] ?_; (with_reducible refine (field_Reduce.calls a0 a1 t154 _ ?side1 A4.out).mono ?_); (case side1 => exact fU_ HG.out HB.out); rintro e w15 ⟨rfl, hb⟩; refine ⟨_, rfl, ?_⟩; refine nx1_ (below_step (bU_ HB.out) hb) ?_; clear HB; intro HB; clear hb) | ((with_reducible refine gate_callee (f := 80) rfl ?_); refine gl_ (some 22) Tryd.func80 #[.int .i64 a0, .int .i64 (l2.length : Int)] ?_; (with_reducible refine (transform_exponent.calls k a0 (l2.length : Int) t155 true _ ?side1 A7.out).mono ?_); (case side1 => exact fU_ HG.out HB.out); rintro e w16 ⟨rfl, hb⟩; refine ⟨_, rfl, ?_⟩; refine nx1_ (below_step (bU_ HB.out) hb) ?_; clear HB; intro HB; clear hb) | ((with_reducible refine gate_callee (f := 81) rfl ?_); refine gl_ (some 29) Tryd.func81 #[.int .i64 a0, .slice A2 l2.length c2] ?_; (with_reducible refine (transform_reordered.calls k a0 _ _ l2 t157 _ ?side1 ?side2 ?side3 A9.out).mono ?_); (case side1 => exact fU_ HG.out HB.out); (case side2 => exact cU_ (C_below HR2.out HB.out)); (case side3 => exact HC2.out); rintro e w17 ⟨v158, rfl, ho0, hb⟩; refine ⟨_, rfl, ?_⟩; refine nx2_ (R_lower ho0 (below_size (bU_ HB.out))) (below_step (bU_ HB.out) hb) ?_; clear HB; intro HO159 HB; clear hb ho0) | ((with_reducible refine gate_callee (f := 60) rfl ?_); refine gl_ (some 35) Tryd.func60 #[.int .i64 a0, .int .i64 t155] ?_; (with_reducible refine (field_Root.calls k a0 t155 t160 _ ?side1 A10.out).mono ?_); (case side1 => exact fU_ HG.out HB.out); rintro e w18 ⟨rfl, hb⟩; refine ⟨_, rfl, ?_⟩; refine nx2_ (R_below (rU_ HO159.out) hb) (below_step (bU_ HB.out) hb) ?_; clear HO159 HB; intro HO159 HB; clear hb) | ((with_reducible refine gate_callee (f := 83) rfl ?_); refine gl_ (some 36) Tryd.func83 #[.int .i64 a0, .int .u64 t160] ?_; (with_reducible refine (field_Inv.calls k a0 t160 t161 _ ?side1 A11.out).mono ?_); (case side1 => exact fU_ HG.out HB.out); rintro e w19 ⟨rfl, hb⟩; refine ⟨_, rfl, ?_⟩; refine nx2_ (R_below (rU_ HO159.out) hb) (below_step (bU_ HB.out) hb) ?_; clear HO159 HB; intro HO159 HB; clear hb) | ((with_reducible refine gate_callee (f := 82) rfl ?_); refine gl_ (some 37) Tryd.func82 #[.int .i64 a0, v158, .int .u64 t161] ?_; (refine (transform_butterflies.callsR k a0 _ _ _ _ t157 t161 t157n _ ?side1 ?side2 (rU_ HO159.out) A12.out).mono ?_); (case side1 => exact fU_ HG.out HB.out); (case side2 => exact HG.out.notab); rintro e w21 ⟨rfl, ho0, hb⟩; refine ⟨_, rfl, ?_⟩; have n0_ := ak ho0; have n1_ := ak ((bU_ HB.out).trans hb); clear HO159; clear HB; have HO159 := n0_; have HB := n1_; clear n0_ n1_ ho0 hb; obtain ⟨Ao20, co20, eo20⟩ := R_slice HO159.out; subst eo20) | ((with_reducible refine gate_callee (f := 83) rfl ?_); refine gl_ (some 42) Tryd.func83 #[.int .i64 a0, .int .u64 (IntKind.u64.wrap ((l2.length : Int)))] ?_; (with_reducible refine (field_Inv.calls k a0 (IntKind.u64.wrap ((l2.length : Int))) t162 _ ?side1 A13.out).mono ?_); (case side1 => exact fU_ HG.out HB.out); rintro e w22 ⟨rfl, hb⟩; refine ⟨_, rfl, ?_⟩; refine nx2_ (R_below (rU_ HO159.out) hb) (below_step (bU_ HB.out) hb) ?_; clear HO159 HB; intro HO159 HB; clear hb) | ((with_reducible refine gate_callee (f := 83) rfl ?_); refine gl_ (some 45) Tryd.func83 #[.int .i64 a0, .int .u64 a1] ?_; (with_reducible refine (field_Inv.calls k a0 a1 t163 _ ?side1 A14.out).mono ?_); (case side1 => exact fU_ HG.out HB.out); rintro e w23 ⟨rfl, hb⟩; refine ⟨_, rfl, ?_⟩; refine nx2_ (R_below (rU_ HO159.out) hb) (below_step (bU_ HB.out) hb) ?_; clear HO159 HB; intro HO159 HB; clear hb))
  go_loopg [11, 48] k (fun kq v11 v48 w' => ∃ (x10_1 : List Int) (x11_1 : Int) (x48_1 : Int), v11 = .int .u64 x11_1 ∧ v48 = .int .i64 x48_1 ∧ Aside0 (transform_Coefficients.l0 kq a0 x10_1 x11_1 t163 (t157n.length : Int) x48_1 = some (r1, r2)) ∧ Aside0 (kq ≤ k) ∧ Aside0 (Kd.R (Kd.int .u64) 22 w' w.heap.size (fun _ => True) (.slice Ao20 t157n.length co20) x10_1) ∧ Aside0 (Below w.heap.size w w'))
  case atStart => exact ⟨(t157n), (t162), (0), gb_, gb_, H', ⟨Nat.le_refl _⟩, ⟨rU_ HO159.out⟩, ⟨bU_ HB.out⟩⟩
  case round =>
   clear H'
   (try clear c2); (try clear p2); (try clear c5); (try clear c5b0); (try clear c5b1); (try clear c6); (try clear c8); (try clear c22)
   obtain ⟨x10_1, x11_1, x48_1, rfl, rfl, HA, HK1, HO_10, HB⟩ := hrel
   have hl10_1 := (R_reads' HO_10.out).1
   rw [hl10_1] at HO_10
   (try simp only [hl10_1])
   cases gk with
   | zero => exact absurd HA.out (by simp [transform_Coefficients.l0])
   | succ k1 =>
    have H := HA.out
    clear HA
    simp only [transform_Coefficients.l0] at H
    by_cases c24 : x48_1 < (t157n.length : Int)
    ·rw [if_pos c24] at H
     have c24b0 := decide_eq_true c24
     (try (have c24b0r0 := c24b0; simp only [hl10_1] at c24b0r0))
     clear c24
     obtain ⟨c25, H⟩ : (0 ≤ x48_1) ∧ _ := it_ H
     have c25b0 := decide_eq_true c25
     clear c25
     obtain ⟨c26, H⟩ : (x48_1 < (x10_1.length : Int)) ∧ _ := it_ H
     have c26b0 := decide_eq_true c26
     clear c26
     revert H
     refine bd_ fun t165 A27 H => ?_
     obtain ⟨y166, hy166⟩ : ∃ y_ : List Int, y_ = (x10_1.set (x48_1 : Int).toNat t165) := ⟨_, rfl⟩
     first | rw [Option.bind_some, ← hy166] at H | rw [← hy166] at H
     have Ny166 := ak hy166
     clear hy166
     revert H
     refine bd_ fun t167 A29 H => ?_
     have H' := ak H
     clear H
     have pfr30 : 0 ≤ (x48_1 : Int) := od_
     have qfr30 : (x48_1 : Int) < ((x10_1.length : Int) : Int) := od_
     obtain ⟨gofr30, cofr30, eofr30, gbfr30, glfr30, clfr30, HGfr30⟩ := Kd.R_form HO_10.out (by omega)
     (first | cases eofr30 | (injection eofr30 with ea_ en_ ec_; (first | subst ea_ | (injection ea_ with ea_; subst ea_)); subst ec_; clear en_))
     have GBfr30 := ak gbfr30
     have GGfr30 := ak HGfr30
     clear gbfr30 glfr30 HGfr30
     clear pfr30 qfr30
     have p164 : 0 ≤ (x48_1 : Int) := od_
     have q164 : x48_1 < (x10_1.length : Int) := od_
     obtain ⟨ad164, e164, hx164_0⟩ := Kd.at_int (R_reads' HO_10.out).2.2 x48_1 p164 q164
     obtain rfl : (⟨gofr30, 0, none⟩ : Addr) = ad164 := (by injection e164)
     (first | simp only [add_plain] at hx164_0 | simp only [add_at] at hx164_0 | simp only [Addr.add, Nat.zero_add] at hx164_0 | skip)
     replace p164 := eq_true p164
     replace q164 := eq_true q164
     go_wp2_with (first | ((with_reducible refine gate_callee (f := 19) rfl ?_); refine gl_ (some 59) Tryd.func19 #[.int .i64 a0, .int .u64 (rd x10_1 x48_1), .int .u64 x11_1] ?_; (with_reducible refine (field_Mul.calls a0 (rd x10_1 x48_1) x11_1 t165 _ ?side1 A27.out).mono ?_); (case side1 => exact fU_ HG.out HB.out); rintro e w31 ⟨rfl, hb⟩; refine ⟨_, rfl, ?_⟩; refine nx2_ (R_below (rU_ HO_10.out) hb) (below_step (bU_ HB.out) hb) ?_; clear HO_10 HB; intro HO_10 HB; clear hb; have p28 : 0 ≤ (x48_1 : Int) := od_; have q28 : (x48_1 : Int) < ((x10_1.length : Int) : Int) := od_; obtain ⟨hx28_0, hf28_0⟩ := Kd.R_celln 0 HO_10.out (x48_1 : Int) p28 q28; replace p28 := eq_true p28; replace q28 := eq_true q28; obtain ⟨hy32_, hz32_⟩ := Kd.R_celln 0 HO_10.out (x48_1 : Int) od_ od_; have HP32 := Kd.R_putg HO_10.out (x48_1 : Int) t165) | ((with_reducible refine gate_store (t := 22) (p := 60) rfl ?_); refine store_event (t := 22) (p := 60) (v := ?vo_w33) (w1 := (w31.setCell ⟨gofr30, (x48_1 : Int).toNat, none⟩ (.int .u64 t165))) ?hg ?ho ?hn ?hr ?_; (case ho => rfl); (case hg => rfl); (case hn => rfl); (case hr => first | (go_simp; done) | (go_simp; rfl)); intro w33 hw; have hg : w31.grownBy w33 (some gofr30) := (by rw [hw]; exact HP32.2); have hp_ : Kd.R (Kd.int .u64) 22 w33 w.heap.size (fun _ => True) (.slice (some ⟨gofr30, 0, none⟩) x10_1.length co20) y166 := (by rw [hw, Ny166.out]; exact HP32.1); clear HP32; refine nx2_ (hp_) ((by rw [hw]; exact below_set (HB.out) GBfr30.out : Below w.heap.size w w33)) ?_; clear HO_10 HB; intro HO_10 HB; clear hg hw hp_) | ((with_reducible refine gate_callee (f := 19) rfl ?_); refine gl_ (some 64) Tryd.func19 #[.int .i64 a0, .int .u64 x11_1, .int .u64 t163] ?_; (with_reducible refine (field_Mul.calls a0 x11_1 t163 t167 _ ?side1 A29.out).mono ?_); (case side1 => exact fU_ HG.out HB.out); rintro e w34 ⟨rfl, hb⟩; refine ⟨_, rfl, ?_⟩; refine nx2_ (R_below (rU_ HO_10.out) hb) (below_step (bU_ HB.out) hb) ?_; clear HO_10 HB; intro HO_10 HB; clear hb))
     (try simp only [← hl10_1])
     go_roundg k1
     case measure => have := HK1.out; omega
     case rel => exact ⟨(y166), (t167), (wrap64 (x48_1 + 1)), gb_, gb_, H', ⟨by have := HK1.out; omega⟩, ⟨by (try simp only [hl10_1]); (with_reducible repeat (first | apply Kd.R_alloc | apply Kd.R_drewN | apply R_drew)); exact HO_10.out⟩, ⟨bU_ HB.out⟩⟩
    rw [if_neg c24] at H
    have c24b0 := decide_eq_false c24
    (try (have c24b0r0 := c24b0; simp only [hl10_1] at c24b0r0))
    clear c24
    simp only [Option.some.injEq, Prod.mk.injEq] at H
    obtain ⟨rfl, rfl⟩ := H
    go_wp2
    go_ret2
    exact ⟨_, eW_, rU_ HO_10.out, bU_ HB.out⟩
 replace c8 := Bool.eq_false_iff.mpr c8
 subst c8
 rw [if_neg (show ¬ (false = true) by decide)] at H
 simp only [Option.some.injEq, Prod.mk.injEq] at H
 obtain ⟨rfl, rfl⟩ := H
 go_enter Tryd.func65, Tryd.ntmps65
 go_wp2_with (first | ((with_reducible refine gate_callee (f := 22) rfl ?_); refine gl_ (some 16) Tryd.func22 #[.int .i64 a0, .int .u64 a1] ?_; (with_reducible refine (field_Reduce.calls a0 a1 t154 _ ?side1 A4.out).mono ?_); (case side1 => exact fU_ HG.out HB.out); rintro e w35 ⟨rfl, hb⟩; refine ⟨_, rfl, ?_⟩; refine nx1_ (below_step (bU_ HB.out) hb) ?_; clear HB; intro HB; clear hb) | ((with_reducible refine gate_callee (f := 80) rfl ?_); refine gl_ (some 22) Tryd.func80 #[.int .i64 a0, .int .i64 (l2.length : Int)] ?_; (with_reducible refine (transform_exponent.calls k a0 (l2.length : Int) t155 false _ ?side1 A7.out).mono ?_); (case side1 => exact fU_ HG.out HB.out); rintro e w36 ⟨rfl, hb⟩; refine ⟨_, rfl, ?_⟩; refine nx1_ (below_step (bU_ HB.out) hb) ?_; clear HB; intro HB; clear hb))
 go_ret2
 exact ⟨_, eW_, by first | exact Kd.R_nil _ _ _ _ _ | exact Kd.N_nil _ _ _ _ _ | exact Kd.V_nil _ _ _ _ _ | exact Kd.Q_nil _ _ _ _ _ | exact Kd.S_nil _ _ _ _ _, bU_ HB.out⟩

def code_local.l0 : Nat → List Int → Int → List Int → Nat → Option (List Int)
 | 0, _, _, _, _ => none
 | k + 1, l, i, x, j => if j < 8 then if 0 ≤ wrap64 (i + wrap64 (Int.tdiv (wrap64 ((j : Int) * (l.length : Int))) 8)) ∧ wrap64 (i + wrap64 (Int.tdiv (wrap64 ((j : Int) * (l.length : Int))) 8)) < (l.length : Int) then code_local.l0 k l i (x.set j (rd l (wrap64 (i + wrap64 (Int.tdiv (wrap64 ((j : Int) * (l.length : Int))) 8))))) (j + 1) else none else some x
def code_local.f (k : Nat) (d0 d1 d2 : Int) (l : List Int) (i : Int) : Option (List Int) := (code_local.l0 k l i (List.replicate 8 0) 0).bind fun x => (code_Point.f k d0 d1 d2 i).bind fun pt => (transform_Coefficients.f k d0 pt x).bind fun bt => some (cpyAt (List.replicate 8 0) 0 bt.1)
theorem code_local.mono_l : ∀ k l i x j, LeO (code_local.l0 k l i x j) (code_local.l0 (k + 1) l i x j)
 | 0, _, _, _, _ => fun r h => by simp [code_local.l0] at h
 | k + 1, l, i, x, j => by
  rw [code_local.l0, code_local.l0]
  exact LeO.ite (LeO.ite (code_local.mono_l _ _ _ _ _) (LeO.refl _)) (LeO.refl _)
theorem code_local.mono : ∀ d0 d1 d2 l i k, LeO (code_local.f k d0 d1 d2 l i) (code_local.f (k + 1) d0 d1 d2 l i) := by
 intro d0 d1 d2 l i k
 unfold code_local.f
 exact LeO.bind (code_local.mono_l _ _ _ _ _) fun _ => LeO.bind (code_Point.mono _ _ _ _ _) fun _ => LeO.bind (transform_Coefficients.mono _ _ _ _) fun _ => LeO.refl _
set_option maxHeartbeats 8000000 in
set_option maxRecDepth 100000 in
theorem code_local.calls8 (k : Nat) (a0_0 a0_1 a0_2 : Int) (A1 : Option Addr) (c1 : Nat) (l1 : List Int) (a2 : Int) (r : List Int) (w : World) (hG : Fld w) (hr1 : Kd.C (Kd.int .u64) w A1 l1.length l1) (hc1 : l1.length ≤ c1) (h : code_local.f k a0_0 a0_1 a0_2 l1 a2 = some r) :
  Calls Tryd.prog 56 #[.agg #[.int .i64 a0_0, .int .i64 a0_1, .int .u64 a0_2], .slice A1 l1.length c1, .int .i64 a2] w fun e w' => e = .returned (arW .u64 r) ∧ r.length = 8 ∧ Below w.heap.size w w' := by
 have hu := Tryd.underlying24
 have HG := ak hG
 have HR1 := ak hr1
 have HC1 := ak hc1
 clear hG hr1 hc1
 have HB := ak (Below.refl w.heap.size w)
 unfold code_local.f at h
 obtain ⟨x, hx, h⟩ := Option.bind_eq_some_iff.mp h
 obtain ⟨pt, hp, h⟩ := Option.bind_eq_some_iff.mp h
 obtain ⟨⟨co, ce⟩, hco, h⟩ := Option.bind_eq_some_iff.mp h
 obtain rfl := Option.some.inj h
 have HX := ak hx
 have HP := ak hp
 have HC := ak hco
 clear hx hp hco h
 go_enter Tryd.func56, Tryd.ntmps56
 go_wp2_with (first | ((with_reducible refine gate_dst (N := 3) rfl ?_); (try (refine gate_guard (by rfl) ?_; dsimp only)); refine bx_ 3 24 #[.int .i64 a0_0, .int .i64 a0_1, .int .u64 a0_2] ?_; intro gb hg w1 hbox hb; refine nx3_ (below_step (bU_ HB.out) hb) hbox ((hs_ hg (below_size (bU_ HB.out)))) ?_; clear HB; intro HB BK GW; clear hb hbox hg) | ((with_reducible refine gate_dst (N := 6) rfl ?_); refine hold_ ?_))
 refine ⟨?_⟩
 refine ev_alloc_ (some 6) 25 8 rfl rfl rfl zA8.1 ?_
 intro B w2 hB hA hb
 have hne := ak (show gb ≠ B by have := bk_lt BK.out; omega)
 refine nx4_ (below_step HB.out hb) (bk_ BK.out hb) hA (Nat.le_trans (below_size HB.out) hB) ?_
 clear HB BK hb hA hB
 intro HB BK HA GB
 go_wp2_with (first | ((with_reducible refine gate_dst (N := 7) rfl ?_); refine hold_ ?_))
 refine ⟨?_⟩
 refine ev_alloc_ (some 7) 25 8 rfl rfl rfl zA8.1 ?_
 intro B1 w3 hB hA1 hb
 have hne1 := ak (show gb ≠ B1 ∧ B ≠ B1 by have := bk_lt BK.out; have := HA.out.lt; omega)
 refine nx5_ (below_step HB.out hb) (bk_ BK.out hb) (HA.out.below hb) hA1 (Nat.le_trans (below_size HB.out) hB) ?_
 clear HB BK HA hb hA1 hB
 intro HB BK HA HA1 GB1
 go_wp2_with (first | ((with_reducible refine gate_dst (N := 8) rfl ?_); refine hold_ ?_))
 refine ⟨?_⟩
 refine ev_alloc_ (some 8) 25 8 rfl rfl rfl zA8.1 ?_
 intro B2 w4 hB hA2 hb
 have hne2 := ak (show gb ≠ B2 ∧ B ≠ B2 ∧ B1 ≠ B2 by have := bk_lt BK.out; have := HA.out.lt; have := HA1.out.lt; omega)
 refine nx6_ (below_step HB.out hb) (bk_ BK.out hb) (HA.out.below hb) (HA1.out.below hb) hA2 (Nat.le_trans (below_size HB.out) hB) ?_
 clear HB BK HA HA1 hb hA2 hB
 intro HB BK HA HA1 HA2 GB2
 go_wp2
 go_loopg [12] k (fun kq v12 w' => ∃ (j : Nat) (xs : List Int), v12 = .int .i64 (j : Int) ∧ Aside0 (code_local.l0 kq l1 a2 xs j = some x) ∧ Aside0 (kq ≤ k) ∧ Aside0 (xs.length = 8) ∧ Aside0 (w'.heap[gb]? = some (.cells #[.int .i64 a0_0, .int .i64 a0_1, .int .u64 a0_2] 24 (0, 0))) ∧ Aside0 (Arr w' B 25 (List.replicate 8 0)) ∧ Aside0 (Arr w' B1 25 xs) ∧ Aside0 (Arr w' B2 25 (List.replicate 8 0)) ∧ Aside0 (Below w.heap.size w w'))
 case atStart => exact ⟨0, _, rfl, HX, ⟨Nat.le_refl _⟩, ⟨rfl⟩, BK, HA, HA1, HA2, HB⟩
 case round =>
  clear HX BK HA HA1 HA2 HB
  obtain ⟨j, xs, rfl, HX, HK, HLN, BK, HA, HA1, HA2, HB⟩ := hrel
  cases gk with
  | zero => exact absurd HX.out (by simp [code_local.l0])
  | succ k1 =>
   have H := HX.out
   clear HX
   rw [code_local.l0] at H
   by_cases c3 : j < 8
   ·rw [if_pos c3] at H
    have e1 : decide ((j : Int) < 8) = true := by simp; omega
    obtain ⟨⟨c4, c5⟩, H⟩ := it_ H
    have HX := ak H
    clear H
    obtain ⟨ad, ea, hx⟩ := Kd.at_int HR1.out _ c4 c5
    cases ea
    replace hx := (HB.out.cell (World.block_lt_of_cell? w _ hx)).trans hx
    have hu25 := uA8
    go_wp2_with ((with_reducible refine gate_store (t := 22) (p := 26) rfl ?_); refine hold_ ?_)
    refine ⟨?_⟩
    have hj8 : j < xs.length := by have := HLN.out; omega
    have hxB := HA1.out.part.cell hj8
    have hfB := HA1.out.part.frozen j
    rw [Nat.zero_add] at hxB
    refine store_event (t := 22) (p := 26) (v := ?vo) (w1 := (wr.setCell ⟨B1, j, none⟩ (.int .u64 (rd l1 (wrap64 (a2 + wrap64 ((wrap64 ((j : Int) * (l1.length : Int))).tdiv 8))))))) ?hg ?ho ?hn ?hr ?_
    case ho => rfl
    case hg => rfl
    case hn => rfl
    case hr => first | (go_simp; done) | (go_simp; rfl)
    intro w7 hw
    have hA1 := HA1.out.set j (rd l1 (wrap64 (a2 + wrap64 ((wrap64 ((j : Int) * (l1.length : Int))).tdiv 8))))
    rw [← hw] at hA1
    have hgr : wr.grownBy w7 (some B1) := by rw [hw]; exact setCell_grown _ _ _ _
    have hbl : Below w.heap.size w w7 := by rw [hw]; exact below_set HB.out GB1.out
    refine nx5_ (bk_grown BK.out hgr hne1.out.1) (HA.out.grown hgr (fun e => hne1.out.2 (Option.some.inj e))) hA1 (HA2.out.grown hgr (fun e => hne2.out.2.2 (Option.some.inj e).symm)) hbl ?_
    clear BK HA HA1 HA2 HB hx hxB hfB hA1 hgr hbl hw
    intro BK HA HA1 HA2 HB
    go_wp2
    go_roundg k1
    case measure => have := HK.out; omega
    case rel => exact ⟨j + 1, _, by first | rfl | (simp; done) | (simp [*]; done), HX, ⟨by have := HK.out; omega⟩, ⟨by rw [List.length_set]; exact HLN.out⟩, BK, HA, HA1, HA2, HB⟩
   rw [if_neg c3] at H
   obtain rfl := Option.some.inj H
   clear H
   have e1 : decide ((j : Int) < 8) = false := by simp; omega
   go_wp2
   refine start_ (n := 12) (S := fun w' => w'.heap[gb]? = some (.cells #[.int .i64 a0_0, .int .i64 a0_1, .int .u64 a0_2] 24 (0, 0)) ∧ Arr w' B1 25 xs) (ds := []) (bv 12 0) (by kernel_rfl) rfl rfl ⟨bk_ BK.out (below_drew1 (Below.refl _ _)), HA1.out.below (below_drew1 (Below.refl _ _))⟩ (fun hHeld => ?_)
   refine nx3_ (HA.out.below (below_drew1 (Below.refl _ _))) (HA2.out.below (below_drew1 (Below.refl _ _))) (below_drew1 HB.out) ?_
   clear BK HA HA1 HA2 HB
   intro HA HA2 HB
   generalize wr.drew = w5 at HA HA2 HB hHeld ⊢
   have HT_ : Aside0 (rtab .any (opsOf Tryd.f56 7) = rtab .any (opsOf Tryd.f56 7)) := ⟨rfl⟩
   refine pq_ 0 29 12 1 HT_.out ?_
   refine take_ (i := 1) (N := some 30) (v := ?_) (a' := ?_) (bv 12 3) rfl rfl (take_of HT_.out (by kernel_rfl)) (fun _ _ _ h => h) (Or.inl ⟨by rfl, ?_⟩) hHeld ?_ ?_
   rotate_left
   ·rintro w' ⟨s0, s1⟩
    have z0 : w'.cell? ⟨gb, 0, none⟩ = some (.int .i64 a0_0) := (blk_cell s0 0).trans rfl
    have z1 : w'.cell? ⟨gb, 1, none⟩ = some (.int .i64 a0_1) := (blk_cell s0 1).trans rfl
    have z2 : w'.cell? ⟨gb, 2, none⟩ = some (.int .u64 a0_2) := (blk_cell s0 2).trans rfl
    go_simp
    with_reducible rfl
   rotate_left
   ·simp only [Act.put, s1_, s2_, s3_, i64_w, i32_w]
    rfl
   refine take_ (i := 2) (N := some 31) (v := ?_) (a' := ?_) (bv 12 7) rfl rfl (take_of HT_.out (by kernel_rfl)) (fun _ _ _ h => h) (Or.inl ⟨by rfl, ?_⟩) hHeld ?_ ?_
   rotate_left
   ·rintro w' ⟨s0, s1⟩
    have z0 : w'.cell? ⟨gb, 0, none⟩ = some (.int .i64 a0_0) := (blk_cell s0 0).trans rfl
    have z1 : w'.cell? ⟨gb, 1, none⟩ = some (.int .i64 a0_1) := (blk_cell s0 1).trans rfl
    have z2 : w'.cell? ⟨gb, 2, none⟩ = some (.int .u64 a0_2) := (blk_cell s0 2).trans rfl
    go_simp
    with_reducible rfl
   rotate_left
   ·simp only [Act.put, s1_, s2_, s3_, i64_w, i32_w]
    rfl
   refine pq_ 3 32 12 15 HT_.out ?_
   refine pr_ (i := 5) (N := some 34) (v := .slice (some ⟨B1, 0, none⟩) 8 8) (a' := ?_) (bv 12 47) HT_.out ?_ ?_ ?_; rotate_left 1; (intro w'; exact exec_slice_ rfl rfl uA8 sU w'); (simp only [Act.put, s1_, s2_, s3_, i64_w, i32_w]; rfl)
   refine oq_ 4 33 12 63 HT_.out fun K hK => ?_
   refine gs_ Tryd.func34 #[.agg #[.int .i64 a0_0, .int .i64 a0_1, .int .u64 a0_2], .int .i64 a2] ?_
   refine (code_Point.calls k a0_0 a0_1 a0_2 a2 pt _ (fU_ HG.out HB.out) HP.out).mono ?_
   rintro e w6 ⟨rfl, hb⟩
   refine ⟨_, rfl, ?_⟩
   refine nx3_ (HA.out.below hb) (HA2.out.below hb) (below_step (bU_ HB.out) hb) ?_
   clear HA HA2 HB
   intro HA HA2 HB
   refine hK.out _ _ ⟨bk_ hHeld.1 hb, hHeld.2.below hb⟩ (fun hHeld => ?_)
   clear hK K hb
   refine norm_ (a' := ?_) ?_ ?_
   rotate_left
   ·show Act.put _ (some 33) _ = _
    simp only [Act.put, s1_, s2_, s3_, i64_w, i32_w]
    rfl
   refine oq_ 6 35 12 127 HT_.out fun K hK => ?_
   refine gs_ Tryd.func65 #[.int .i64 a0_0, .int .u64 pt, .slice (some ⟨B1, 0, none⟩) 8 8] ?_
   have hq := transform_Coefficients.calls k a0_0 pt (some ⟨B1, 0, none⟩) 8 xs co ce w6 (fU_ HG.out HB.out) (hHeld.2.C (by have := HLN.out; omega)) (by have := HLN.out; omega) HC.out
   rw [HLN.out] at hq
   refine hq.mono ?_
   clear hq
   rintro e w7 ⟨v0, rfl, ho, hb⟩
   refine ⟨_, rfl, ?_⟩
   refine nx4_ (HA.out.below hb) (HA2.out.below hb) (below_step (bU_ HB.out) hb) ho ?_
   clear HA HA2 HB ho
   intro HA HA2 HB HO
   obtain ⟨Ao, cc, eo⟩ := R_slice HO.out
   subst eo
   refine hK.out _ _ ⟨bk_ hHeld.1 hb, hHeld.2.below hb⟩ (fun hHeld => ?_)
   clear hK K hb
   refine norm_ (a' := ?_) ?_ ?_
   rotate_left
   ·show Act.put _ (some 35) _ = _
    simp only [Act.put, s1_, s2_, s3_, i64_w, i32_w]
    rfl
   refine pq_ 7 28 12 255 HT_.out ?_
   refine pq_ 8 36 12 511 HT_.out ?_
   refine pq_ 9 37 12 1023 HT_.out ?_
   refine pq_ 10 10 12 2047 HT_.out ?_
   refine pq_ 11 11 12 4095 HT_.out ?_
   refine done_ (done_of HT_.out (by kernel_rfl)) ?_
   clear hHeld
   go_wp2_with ((with_reducible refine gate_dst (N := 38) rfl ?_); refine hold_ ?_)
   refine ⟨?_⟩
   refine ev_slice_ (some 38) 25 (.tmp 8) B2 8 22 rfl rfl rfl rfl uA8 sU ?_
   go_wp2_with ((with_reducible refine gate_builtin (b := .copy) (xs := #[.tmp 38, .tmp 39]) rfl ?_); refine hold_ ?_)
   refine ⟨?_⟩
   refine ev_copy_ (some 40) rfl rfl (.tmp 38) (.tmp 39) 33 33 22 25 B2 (List.replicate 8 0) co Ao co.length cc rfl Tryd.underlying33 sU rfl rfl HA2.out (R_reads' HO.out).2.2 ?_
   intro w8 hA2 hgr hbl
   refine nx3_ (HA.out.grown hgr (fun e => hne2.out.2.1 (Option.some.inj e))) hA2 (hbl _ _ GB2.out HB.out) ?_
   clear HA HA2 HB HO hA2 hgr hbl
   intro HA HA2 HB
   go_wp2_with ((with_reducible refine gate_dst (N := 41) rfl ?_); refine hold_ ?_)
   refine ⟨?_⟩
   have l8 : (cpyAt (List.replicate 8 0) 0 co).length = 8 := by rw [length_cpyAt _ _ _ (by simp)]; rfl
   refine ev_load_ (some 41) 25 (.tmp 8) B2 8 22 _ rfl rfl rfl rfl HA2.out uA8 (by rw [l8]; exact zA8.2) ?_
   go_wp2_with ((with_reducible refine gate_store (t := 25) (p := 6) rfl ?_); refine hold_ ?_)
   refine ⟨?_⟩
   refine ev_store_ 25 (.tmp 6) (.tmp 41) B _ (cpyAt (List.replicate 8 0) 0 co) rfl rfl rfl rfl rfl HA.out (by rw [l8]; rfl) zA8.2 ?_
   intro w9 hA3 _ hs hw8
   have HB1 := hw8 _ _ GB.out HB.out
   go_wp2
   refine bodyPost_ret (results_arr rfl _ _ rfl hA3 uA8 (by rw [l8]; exact zA8.2)) rfl ?_
   exact ⟨rfl, l8, HB1⟩
def code_Local.f (k : Nat) (d0 d1 d2 : Int) (l : List Int) (i : Int) : Option (List Int) := (code_isWord.f d0 d1 d2 l).bind fun b => if b = true then if d1 < 3 then some (List.replicate 8 0) else if i < 0 then some (List.replicate 8 0) else if i ≥ (l.length : Int) / 8 then some (List.replicate 8 0) else code_local.f k d0 d1 d2 l i else some (List.replicate 8 0)
theorem code_Local.mono : ∀ d0 d1 d2 l i k, LeO (code_Local.f k d0 d1 d2 l i) (code_Local.f (k + 1) d0 d1 d2 l i) := by
 intro d0 d1 d2 l i k
 unfold code_Local.f
 exact LeO.bind (LeO.refl _) fun _ => LeO.ite (LeO.ite (LeO.refl _) (LeO.ite (LeO.refl _) (LeO.ite (LeO.refl _) (code_local.mono _ _ _ _ _ _)))) (LeO.refl _)
set_option maxHeartbeats 4000000 in
set_option maxRecDepth 100000 in
theorem code_Local.calls8 (k : Nat) (a0_0 a0_1 a0_2 : Int) (A1 : Option Addr) (c1 : Nat) (l1 : List Int) (a2 : Int) (r : List Int) (w : World) (hG : Fld w) (hr1 : Kd.C (Kd.int .u64) w A1 l1.length l1) (hc1 : l1.length ≤ c1) (h : code_Local.f k a0_0 a0_1 a0_2 l1 a2 = some r) :
  Calls Tryd.prog 23 #[.agg #[.int .i64 a0_0, .int .i64 a0_1, .int .u64 a0_2], .slice A1 l1.length c1, .int .i64 a2] w fun e w' => e = .returned (arW .u64 r) ∧ r.length = 8 ∧ Below w.heap.size w w' := by
 have hu := Tryd.underlying24
 have hbz : ∀ w : World, (Instr.build 25 #[]).run Tryd.prog w = .ok (arW .u64 (List.replicate 8 0)) w := fun _ => by rfl
 have hlen := hr1.2.1
 have HG := ak hG
 have HR1 := ak hr1
 have HC1 := ak hc1
 clear hG hr1 hc1
 have HB := ak (Below.refl w.heap.size w)
 unfold code_Local.f at h
 obtain ⟨b, hw, h⟩ := Option.bind_eq_some_iff.mp h
 have HW := ak hw
 clear hw
 by_cases c0 : b = true
 ·subst c0
  rw [if_pos rfl] at h
  by_cases q1 : a0_1 < 3
  ·rw [if_pos q1] at h
   obtain rfl := Option.some.inj h
   clear h
   have c1b : decide (a0_1 < 3) = true := decide_eq_true q1
   go_enter Tryd.func23, Tryd.ntmps23
   go_wp2_with (first | ((with_reducible refine gate_dst (N := 3) rfl ?_); (try (refine gate_guard (by rfl) ?_; dsimp only)); refine bx_ 3 24 #[.int .i64 a0_0, .int .i64 a0_1, .int .u64 a0_2] ?_; intro gb hg w1 hbox hb; refine nx3_ (below_step (bU_ HB.out) hb) hbox ((hs_ hg (below_size (bU_ HB.out)))) ?_; clear HB; intro HB BK GW; clear hb hbox hg; have hcz_0 := bc0_ BK.out; have hcz_1 := bc1_ BK.out; have hcz_2 := bc2_ BK.out; have hfz_0 := blk_frozen BK.out 0; have hfz_1 := blk_frozen BK.out 1; have hfz_2 := blk_frozen BK.out 2) | ((with_reducible refine gate_dst (N := 6) rfl ?_); refine hold_ ?_))
   refine ⟨?_⟩
   refine ev_alloc_ (some 6) 25 8 rfl rfl rfl zA8.1 ?_
   intro B w2 hB hA hb
   have hne : gb ≠ B := by have := bk_lt BK.out; omega
   clear hcz_0 hcz_1 hcz_2 hfz_0 hfz_1 hfz_2
   refine nx4_ (below_step HB.out hb) (bk_ BK.out hb) hA (Nat.le_trans (below_size HB.out) hB) ?_
   clear HB BK hb hA hB
   intro HB BK HA GB
   have hczw2_0 := bc0_ BK.out; have hczw2_1 := bc1_ BK.out; have hczw2_2 := bc2_ BK.out; have hfzw2_0 := blk_frozen BK.out 0; have hfzw2_1 := blk_frozen BK.out 1; have hfzw2_2 := blk_frozen BK.out 2
   go_wp2_with (first | ((with_reducible refine gate_callee (f := 55) rfl ?_); refine gl_ (some 9) Tryd.func55 #[.agg #[.int .i64 a0_0, .int .i64 a0_1, .int .u64 a0_2], .slice A1 l1.length c1] ?_; refine hold_ ?_))
   refine ⟨?_⟩
   refine (code_isWord.calls a0_0 a0_1 a0_2 A1 c1 l1 true _ (fU_ HG.out HB.out) (C_below HR1.out HB.out) HC1.out HW.out).mono ?_
   rintro e w3 ⟨rfl, hb⟩
   refine ⟨_, rfl, ?_⟩
   clear hczw2_0 hczw2_1 hczw2_2 hfzw2_0 hfzw2_1 hfzw2_2
   refine nx3_ (below_step (bU_ HB.out) hb) (bk_ BK.out hb) (HA.out.below hb) ?_
   clear HB BK HA hb
   intro HB BK HA
   have hczw3_0 := bc0_ BK.out; have hczw3_1 := bc1_ BK.out; have hczw3_2 := bc2_ BK.out; have hfzw3_0 := blk_frozen BK.out 0; have hfzw3_1 := blk_frozen BK.out 1; have hfzw3_2 := blk_frozen BK.out 2
   go_wp2_with ((with_reducible refine gate_store (t := 25) (p := 6) rfl ?_); refine hold_ ?_)
   refine ⟨?_⟩
   refine ev_store_ 25 (.tmp 6) (.tmp 27) B _ (List.replicate 8 0) rfl rfl rfl rfl rfl HA.out rfl zA8.2 ?_
   intro w4 hA3 _ hs hw8
   have HB1 := hw8 _ _ GB.out HB.out
   clear hczw3_0 hczw3_1 hczw3_2 hfzw3_0 hfzw3_1 hfzw3_2
   go_wp2
   refine bodyPost_ret (results_arr rfl _ _ rfl hA3 uA8 zA8.2) rfl ?_
   exact ⟨rfl, rfl, HB1⟩
  rw [if_neg q1] at h
  have c1b : decide (a0_1 < 3) = false := decide_eq_false q1
  by_cases q2 : a2 < 0
  ·rw [if_pos q2] at h
   obtain rfl := Option.some.inj h
   clear h
   have c2b : decide (a2 < 0) = true := decide_eq_true q2
   go_enter Tryd.func23, Tryd.ntmps23
   go_wp2_with (first | ((with_reducible refine gate_dst (N := 3) rfl ?_); (try (refine gate_guard (by rfl) ?_; dsimp only)); refine bx_ 3 24 #[.int .i64 a0_0, .int .i64 a0_1, .int .u64 a0_2] ?_; intro gb hg w1 hbox hb; refine nx3_ (below_step (bU_ HB.out) hb) hbox ((hs_ hg (below_size (bU_ HB.out)))) ?_; clear HB; intro HB BK GW; clear hb hbox hg; have hcz_0 := bc0_ BK.out; have hcz_1 := bc1_ BK.out; have hcz_2 := bc2_ BK.out; have hfz_0 := blk_frozen BK.out 0; have hfz_1 := blk_frozen BK.out 1; have hfz_2 := blk_frozen BK.out 2) | ((with_reducible refine gate_dst (N := 6) rfl ?_); refine hold_ ?_))
   refine ⟨?_⟩
   refine ev_alloc_ (some 6) 25 8 rfl rfl rfl zA8.1 ?_
   intro B w2 hB hA hb
   have hne : gb ≠ B := by have := bk_lt BK.out; omega
   clear hcz_0 hcz_1 hcz_2 hfz_0 hfz_1 hfz_2
   refine nx4_ (below_step HB.out hb) (bk_ BK.out hb) hA (Nat.le_trans (below_size HB.out) hB) ?_
   clear HB BK hb hA hB
   intro HB BK HA GB
   have hczw2_0 := bc0_ BK.out; have hczw2_1 := bc1_ BK.out; have hczw2_2 := bc2_ BK.out; have hfzw2_0 := blk_frozen BK.out 0; have hfzw2_1 := blk_frozen BK.out 1; have hfzw2_2 := blk_frozen BK.out 2
   go_wp2_with (first | ((with_reducible refine gate_callee (f := 55) rfl ?_); refine gl_ (some 9) Tryd.func55 #[.agg #[.int .i64 a0_0, .int .i64 a0_1, .int .u64 a0_2], .slice A1 l1.length c1] ?_; refine hold_ ?_))
   refine ⟨?_⟩
   refine (code_isWord.calls a0_0 a0_1 a0_2 A1 c1 l1 true _ (fU_ HG.out HB.out) (C_below HR1.out HB.out) HC1.out HW.out).mono ?_
   rintro e w3 ⟨rfl, hb⟩
   refine ⟨_, rfl, ?_⟩
   clear hczw2_0 hczw2_1 hczw2_2 hfzw2_0 hfzw2_1 hfzw2_2
   refine nx3_ (below_step (bU_ HB.out) hb) (bk_ BK.out hb) (HA.out.below hb) ?_
   clear HB BK HA hb
   intro HB BK HA
   have hczw3_0 := bc0_ BK.out; have hczw3_1 := bc1_ BK.out; have hczw3_2 := bc2_ BK.out; have hfzw3_0 := blk_frozen BK.out 0; have hfzw3_1 := blk_frozen BK.out 1; have hfzw3_2 := blk_frozen BK.out 2
   go_wp2_with ((with_reducible refine gate_store (t := 25) (p := 6) rfl ?_); refine hold_ ?_)
   refine ⟨?_⟩
   refine ev_store_ 25 (.tmp 6) (.tmp 27) B _ (List.replicate 8 0) rfl rfl rfl rfl rfl HA.out rfl zA8.2 ?_
   intro w4 hA3 _ hs hw8
   have HB1 := hw8 _ _ GB.out HB.out
   clear hczw3_0 hczw3_1 hczw3_2 hfzw3_0 hfzw3_1 hfzw3_2
   go_wp2
   refine bodyPost_ret (results_arr rfl _ _ rfl hA3 uA8 zA8.2) rfl ?_
   exact ⟨rfl, rfl, HB1⟩
  rw [if_neg q2] at h
  have c2b : decide (a2 < 0) = false := decide_eq_false q2
  by_cases q3 : a2 ≥ (l1.length : Int) / 8
  ·rw [if_pos q3] at h
   obtain rfl := Option.some.inj h
   clear h
   have c3b : decide ((l1.length : Int) / 8 ≤ a2) = true := decide_eq_true q3
   go_enter Tryd.func23, Tryd.ntmps23
   go_wp2_with (first | ((with_reducible refine gate_dst (N := 3) rfl ?_); (try (refine gate_guard (by rfl) ?_; dsimp only)); refine bx_ 3 24 #[.int .i64 a0_0, .int .i64 a0_1, .int .u64 a0_2] ?_; intro gb hg w1 hbox hb; refine nx3_ (below_step (bU_ HB.out) hb) hbox ((hs_ hg (below_size (bU_ HB.out)))) ?_; clear HB; intro HB BK GW; clear hb hbox hg; have hcz_0 := bc0_ BK.out; have hcz_1 := bc1_ BK.out; have hcz_2 := bc2_ BK.out; have hfz_0 := blk_frozen BK.out 0; have hfz_1 := blk_frozen BK.out 1; have hfz_2 := blk_frozen BK.out 2) | ((with_reducible refine gate_dst (N := 6) rfl ?_); refine hold_ ?_))
   refine ⟨?_⟩
   refine ev_alloc_ (some 6) 25 8 rfl rfl rfl zA8.1 ?_
   intro B w2 hB hA hb
   have hne : gb ≠ B := by have := bk_lt BK.out; omega
   clear hcz_0 hcz_1 hcz_2 hfz_0 hfz_1 hfz_2
   refine nx4_ (below_step HB.out hb) (bk_ BK.out hb) hA (Nat.le_trans (below_size HB.out) hB) ?_
   clear HB BK hb hA hB
   intro HB BK HA GB
   have hczw2_0 := bc0_ BK.out; have hczw2_1 := bc1_ BK.out; have hczw2_2 := bc2_ BK.out; have hfzw2_0 := blk_frozen BK.out 0; have hfzw2_1 := blk_frozen BK.out 1; have hfzw2_2 := blk_frozen BK.out 2
   go_wp2_with (first | ((with_reducible refine gate_callee (f := 55) rfl ?_); refine gl_ (some 9) Tryd.func55 #[.agg #[.int .i64 a0_0, .int .i64 a0_1, .int .u64 a0_2], .slice A1 l1.length c1] ?_; refine hold_ ?_))
   refine ⟨?_⟩
   refine (code_isWord.calls a0_0 a0_1 a0_2 A1 c1 l1 true _ (fU_ HG.out HB.out) (C_below HR1.out HB.out) HC1.out HW.out).mono ?_
   rintro e w3 ⟨rfl, hb⟩
   refine ⟨_, rfl, ?_⟩
   clear hczw2_0 hczw2_1 hczw2_2 hfzw2_0 hfzw2_1 hfzw2_2
   refine nx3_ (below_step (bU_ HB.out) hb) (bk_ BK.out hb) (HA.out.below hb) ?_
   clear HB BK HA hb
   intro HB BK HA
   have hczw3_0 := bc0_ BK.out; have hczw3_1 := bc1_ BK.out; have hczw3_2 := bc2_ BK.out; have hfzw3_0 := blk_frozen BK.out 0; have hfzw3_1 := blk_frozen BK.out 1; have hfzw3_2 := blk_frozen BK.out 2
   go_wp2_with ((with_reducible refine gate_store (t := 25) (p := 6) rfl ?_); refine hold_ ?_)
   refine ⟨?_⟩
   refine ev_store_ 25 (.tmp 6) (.tmp 27) B _ (List.replicate 8 0) rfl rfl rfl rfl rfl HA.out rfl zA8.2 ?_
   intro w4 hA3 _ hs hw8
   have HB1 := hw8 _ _ GB.out HB.out
   clear hczw3_0 hczw3_1 hczw3_2 hfzw3_0 hfzw3_1 hfzw3_2
   go_wp2
   refine bodyPost_ret (results_arr rfl _ _ rfl hA3 uA8 zA8.2) rfl ?_
   exact ⟨rfl, rfl, HB1⟩
  rw [if_neg q3] at h
  have HL := ak h
  clear h
  have c3b : decide ((l1.length : Int) / 8 ≤ a2) = false := decide_eq_false q3
  go_enter Tryd.func23, Tryd.ntmps23
  go_wp2_with (first | ((with_reducible refine gate_dst (N := 3) rfl ?_); (try (refine gate_guard (by rfl) ?_; dsimp only)); refine bx_ 3 24 #[.int .i64 a0_0, .int .i64 a0_1, .int .u64 a0_2] ?_; intro gb hg w1 hbox hb; refine nx3_ (below_step (bU_ HB.out) hb) hbox ((hs_ hg (below_size (bU_ HB.out)))) ?_; clear HB; intro HB BK GW; clear hb hbox hg; have hcz_0 := bc0_ BK.out; have hcz_1 := bc1_ BK.out; have hcz_2 := bc2_ BK.out; have hfz_0 := blk_frozen BK.out 0; have hfz_1 := blk_frozen BK.out 1; have hfz_2 := blk_frozen BK.out 2) | ((with_reducible refine gate_dst (N := 6) rfl ?_); refine hold_ ?_))
  refine ⟨?_⟩
  refine ev_alloc_ (some 6) 25 8 rfl rfl rfl zA8.1 ?_
  intro B w2 hB hA hb
  have hne : gb ≠ B := by have := bk_lt BK.out; omega
  clear hcz_0 hcz_1 hcz_2 hfz_0 hfz_1 hfz_2
  refine nx4_ (below_step HB.out hb) (bk_ BK.out hb) hA (Nat.le_trans (below_size HB.out) hB) ?_
  clear HB BK hb hA hB
  intro HB BK HA GB
  have hczw2_0 := bc0_ BK.out; have hczw2_1 := bc1_ BK.out; have hczw2_2 := bc2_ BK.out; have hfzw2_0 := blk_frozen BK.out 0; have hfzw2_1 := blk_frozen BK.out 1; have hfzw2_2 := blk_frozen BK.out 2
  go_wp2_with (first | ((with_reducible refine gate_callee (f := 55) rfl ?_); refine gl_ (some 9) Tryd.func55 #[.agg #[.int .i64 a0_0, .int .i64 a0_1, .int .u64 a0_2], .slice A1 l1.length c1] ?_; refine hold_ ?_))
  refine ⟨?_⟩
  refine (code_isWord.calls a0_0 a0_1 a0_2 A1 c1 l1 true _ (fU_ HG.out HB.out) (C_below HR1.out HB.out) HC1.out HW.out).mono ?_
  rintro e w3 ⟨rfl, hb⟩
  refine ⟨_, rfl, ?_⟩
  clear hczw2_0 hczw2_1 hczw2_2 hfzw2_0 hfzw2_1 hfzw2_2
  refine nx3_ (below_step (bU_ HB.out) hb) (bk_ BK.out hb) (HA.out.below hb) ?_
  clear HB BK HA hb
  intro HB BK HA
  have hczw3_0 := bc0_ BK.out; have hczw3_1 := bc1_ BK.out; have hczw3_2 := bc2_ BK.out; have hfzw3_0 := blk_frozen BK.out 0; have hfzw3_1 := blk_frozen BK.out 1; have hfzw3_2 := blk_frozen BK.out 2
  go_wp2_with (first | ((with_reducible refine gate_callee (f := 56) rfl ?_); refine gl_ (some 31) Tryd.func56 #[.agg #[.int .i64 a0_0, .int .i64 a0_1, .int .u64 a0_2], .slice A1 l1.length c1, .int .i64 a2] ?_; refine hold_ ?_))
  refine ⟨?_⟩
  refine (code_local.calls8 k a0_0 a0_1 a0_2 A1 c1 l1 a2 r _ (fU_ HG.out HB.out) (C_below HR1.out HB.out) HC1.out HL.out).mono ?_
  rintro e w4 ⟨rfl, hl8, hb⟩
  refine ⟨_, rfl, ?_⟩
  clear hczw3_0 hczw3_1 hczw3_2 hfzw3_0 hfzw3_1 hfzw3_2
  refine nx2_ (below_step (bU_ HB.out) hb) (HA.out.below hb) ?_
  clear HB BK HA hb
  intro HB HA
  go_wp2_with ((with_reducible refine gate_store (t := 25) (p := 6) rfl ?_); refine hold_ ?_)
  refine ⟨?_⟩
  refine ev_store_ 25 (.tmp 6) (.tmp 31) B _ r rfl rfl rfl rfl rfl HA.out (by simpa using hl8) zA8.2 ?_
  intro w5 hA3 _ hs hw8
  have HB1 := hw8 _ _ GB.out HB.out
  go_wp2
  refine bodyPost_ret (results_arr rfl _ _ rfl hA3 uA8 (by rw [hl8]; exact zA8.2)) rfl ?_
  exact ⟨rfl, hl8, HB1⟩
 rw [if_neg c0] at h
 obtain rfl := Option.some.inj h
 clear h
 obtain rfl : b = false := by simpa using c0
 go_enter Tryd.func23, Tryd.ntmps23
 go_wp2_with (first | ((with_reducible refine gate_dst (N := 3) rfl ?_); (try (refine gate_guard (by rfl) ?_; dsimp only)); refine bx_ 3 24 #[.int .i64 a0_0, .int .i64 a0_1, .int .u64 a0_2] ?_; intro gb hg w1 hbox hb; refine nx3_ (below_step (bU_ HB.out) hb) hbox ((hs_ hg (below_size (bU_ HB.out)))) ?_; clear HB; intro HB BK GW; clear hb hbox hg; have hcz_0 := bc0_ BK.out; have hcz_1 := bc1_ BK.out; have hcz_2 := bc2_ BK.out; have hfz_0 := blk_frozen BK.out 0; have hfz_1 := blk_frozen BK.out 1; have hfz_2 := blk_frozen BK.out 2) | ((with_reducible refine gate_dst (N := 6) rfl ?_); refine hold_ ?_))
 refine ⟨?_⟩
 refine ev_alloc_ (some 6) 25 8 rfl rfl rfl zA8.1 ?_
 intro B w2 hB hA hb
 have hne : gb ≠ B := by have := bk_lt BK.out; omega
 clear hcz_0 hcz_1 hcz_2 hfz_0 hfz_1 hfz_2
 refine nx4_ (below_step HB.out hb) (bk_ BK.out hb) hA (Nat.le_trans (below_size HB.out) hB) ?_
 clear HB BK hb hA hB
 intro HB BK HA GB
 have hczw2_0 := bc0_ BK.out; have hczw2_1 := bc1_ BK.out; have hczw2_2 := bc2_ BK.out; have hfzw2_0 := blk_frozen BK.out 0; have hfzw2_1 := blk_frozen BK.out 1; have hfzw2_2 := blk_frozen BK.out 2
 go_wp2_with (first | ((with_reducible refine gate_callee (f := 55) rfl ?_); refine gl_ (some 9) Tryd.func55 #[.agg #[.int .i64 a0_0, .int .i64 a0_1, .int .u64 a0_2], .slice A1 l1.length c1] ?_; refine hold_ ?_))
 refine ⟨?_⟩
 refine (code_isWord.calls a0_0 a0_1 a0_2 A1 c1 l1 false _ (fU_ HG.out HB.out) (C_below HR1.out HB.out) HC1.out HW.out).mono ?_
 rintro e w3 ⟨rfl, hb⟩
 refine ⟨_, rfl, ?_⟩
 clear hczw2_0 hczw2_1 hczw2_2 hfzw2_0 hfzw2_1 hfzw2_2
 refine nx3_ (below_step (bU_ HB.out) hb) (bk_ BK.out hb) (HA.out.below hb) ?_
 clear HB BK HA hb
 intro HB BK HA
 have hczw3_0 := bc0_ BK.out; have hczw3_1 := bc1_ BK.out; have hczw3_2 := bc2_ BK.out; have hfzw3_0 := blk_frozen BK.out 0; have hfzw3_1 := blk_frozen BK.out 1; have hfzw3_2 := blk_frozen BK.out 2
 go_wp2_with ((with_reducible refine gate_store (t := 25) (p := 6) rfl ?_); refine hold_ ?_)
 refine ⟨?_⟩
 refine ev_store_ 25 (.tmp 6) (.tmp 27) B _ (List.replicate 8 0) rfl rfl rfl rfl rfl HA.out rfl zA8.2 ?_
 intro w4 hA3 _ hs hw8
 have HB1 := hw8 _ _ GB.out HB.out
 clear hczw3_0 hczw3_1 hczw3_2 hfzw3_0 hfzw3_1 hfzw3_2
 go_wp2
 refine bodyPost_ret (results_arr rfl _ _ rfl hA3 uA8 zA8.2) rfl ?_
 exact ⟨rfl, rfl, HB1⟩
def poly_Eval.l0 : Nat → Int → List Int → Int → Int → Int → Int → Option (Int)
 | 0, _, _, _, _, _, _ => none
 | k + 1, x0, x1, x2, x7, x10, x11 => if x11 < x10 then ((field_Mul.f x0 x7 x2).bind fun t168 => (if 0 ≤ (wrap64 ((wrap64 ((x1.length : Int) - 1)) - x11)) then (if (wrap64 ((wrap64 ((x1.length : Int) - 1)) - x11)) < (x1.length : Int) then ((field_Add.f x0 t168 (rd x1 (wrap64 ((wrap64 ((x1.length : Int) - 1)) - x11)))).bind fun t170 => (poly_Eval.l0 k x0 x1 x2 t170 x10 (wrap64 (x11 + 1)))) else (none)) else (none))) else (some x7)
def poly_Eval.f (k : Nat) (a0 : Int) (l1 : List Int) (a2 : Int) : Option (Int) := poly_Eval.l0 k a0 l1 a2 0 (l1.length : Int) 0
theorem poly_Eval.mono_l : ∀ k, (∀ y0 y1 y2 y3 y4 y5, LeO (poly_Eval.l0 k y0 y1 y2 y3 y4 y5) (poly_Eval.l0 (k + 1) y0 y1 y2 y3 y4 y5))
 | 0 => fun _ _ _ _ _ _ r h => by simp [poly_Eval.l0] at h
 | k + 1 => by
  have ih0 := poly_Eval.mono_l k
  ·intro y0 y1 y2 y3 y4 y5
   unfold poly_Eval.l0
   with_reducible repeat' first | apply ih0 | exact LeO.refl _ | exact LeO.none _ | refine LeO.ite ?_ ?_ | refine LeO.bind ?_ (fun _ => ?_)
theorem poly_Eval.mono : ∀ a0 a1 a2 k, LeO (poly_Eval.f k a0 a1 a2) (poly_Eval.f (k + 1) a0 a1 a2) := by
 intro a0 a1 a2 k
 have ih0 := poly_Eval.mono_l k
 unfold poly_Eval.f
 with_reducible repeat' first | apply ih0 | exact LeO.refl _ | exact LeO.none _ | refine LeO.ite ?_ ?_ | refine LeO.bind ?_ (fun _ => ?_)
def poly_Eval.T5 : Bool × List (List Nat × List Nat) := (true, [([], []), ([], []), ([], []), ([], []), ([1, 2, 3], [1, 2, 3]), ([], []), ([], []), ([6], [6]), ([7], [7]), ([], []), ([8, 9], [8, 9]), ([5, 10], [5, 10]), ([11], [11]), ([0, 4, 12, 4], [0, 4, 12]), ([13, 13, 0, 1, 2, 3, 4, 5, 6, 7, 8, 9, 10, 11, 12, 13], [2, 13])])
def poly_Eval.B5 : List Nat := [0, 0, 0, 0, 14, 0, 0, 64, 192, 0, 960, 2016, 4064, 8191, 16383]
theorem poly_Eval.tab5 : rtab .any (opsOf Tryd.f46 5) = poly_Eval.T5 := by kernel_rfl
theorem poly_Eval.bits5 : waitsOk poly_Eval.T5.2 poly_Eval.B5 = true := by kernel_rfl
set_option maxHeartbeats 8000000 in
set_option maxRecDepth 100000 in
theorem poly_Eval.calls (k : Nat) (a0 : Int) (A1 : Option Addr) (c1 : Nat) (l1 : List Int) (a2 : Int) (r : Int) (w : World) (hG : Fld w) (hr1 : Kd.C (Kd.int .u64) w A1 l1.length l1) (hc1 : l1.length ≤ c1) (h : poly_Eval.f k a0 l1 a2 = some r) :
  Calls Tryd.prog 46 #[.int .i64 a0, .slice A1 l1.length c1, .int .u64 a2] w fun e w' => e = .returned (.int .u64 r) ∧ Below w.heap.size w w' := by
 have HG := ak hG
 clear hG
 have HR1 := ak hr1
 have HC1 := ak hc1
 clear hr1 hc1
 have HB := ak (Below.refl w.heap.size w)
 have H : (poly_Eval.l0 k a0 l1 a2 0 (l1.length : Int) 0) = some r := h
 clear h
 have H' := ak H
 clear H
 go_enter Tryd.func46, Tryd.ntmps46
 go_wp2
 go_loopg [7, 11] k (fun kq v7 v11 w' => ∃ (x7_1 : Int) (x11_1 : Int), v7 = .int .u64 x7_1 ∧ v11 = .int .i64 x11_1 ∧ Aside0 (poly_Eval.l0 kq a0 l1 a2 x7_1 (l1.length : Int) x11_1 = some r) ∧ Aside0 (kq ≤ k) ∧ Aside0 (Below w.heap.size w w'))
 case atStart => exact ⟨(0), (0), gb_, gb_, H', ⟨Nat.le_refl _⟩, ⟨bU_ HB.out⟩⟩
 case round =>
  clear H'
  (try clear c1); (try clear p2)
  obtain ⟨x7_1, x11_1, rfl, rfl, HA, HK1, HB⟩ := hrel
  cases gk with
  | zero => exact absurd HA.out (by simp [poly_Eval.l0])
  | succ k1 =>
   have H := HA.out
   clear HA
   simp only [poly_Eval.l0] at H
   by_cases c4 : x11_1 < (l1.length : Int)
   ·rw [if_pos c4] at H
    have c4b0 := decide_eq_true c4
    clear c4
    revert H
    refine bd_ fun t168 A5 H => ?_
    obtain ⟨ji6, hji6⟩ : ∃ j_ : Int, (wrap64 ((wrap64 ((l1.length : Int) - 1)) - x11_1)) = j_ := ⟨_, rfl⟩
    first | rw [hji6] at H | simp only [hji6] at H
    (try rw [hji6] at A5)
    have hji6w : (IntKind.i64.wrap ((wrap64 ((l1.length : Int) - 1)) - x11_1)) = ji6 := (i64_w _).trans hji6
    obtain ⟨c7, H⟩ : (0 ≤ (ji6)) ∧ _ := it_ H
    have c7b0 := decide_eq_true c7
    clear c7
    obtain ⟨c8, H⟩ : ((ji6) < (l1.length : Int)) ∧ _ := it_ H
    have c8b0 := decide_eq_true c8
    clear c8
    revert H
    refine bd_ fun t170 A9 H => ?_
    have H' := ak H
    clear H
    try go_wp2
    refine nx1_ (below_drew1 HB.out) ?_
    clear HB
    intro HB
    have p169 : 0 ≤ ((ji6) : Int) := od_
    have q169 : (ji6) < (l1.length : Int) := od_
    obtain ⟨ad169, e169, hx169_0⟩ := Kd.at_int HR1.out (ji6) p169 q169
    have hw169_0 := hx169_0
    cases e169
    replace hx169_0 := (HB.out.cell (World.block_lt_of_cell? w _ hx169_0)).trans hx169_0
    replace p169 := eq_true p169
    replace q169 := eq_true q169
    refine start_ (n := 15) (S := fun w' => w'.cell? (ad169.add ((ji6)).toNat) = some (.int .u64 (rd l1 (ji6)))) (ds := []) (bv 15 0) (by kernel_rfl) rfl rfl (((HB.out.cell (World.block_lt_of_cell? w _ hw169_0)).trans hw169_0)) (fun hHeld => ?_); refine with_tabW poly_Eval.tab5 poly_Eval.bits5 (fun HT_ HW_ => ?_)
    generalize wr.drew = w10 at HB hx169_0 hHeld ⊢
    refine pq_ 0 14 15 1 HT_.out ?_
    refine pq_ 1 15 15 3 HT_.out ?_
    refine pq_ 2 16 15 7 HT_.out ?_
    refine pq_ 3 17 15 15 HT_.out ?_
    refine pq_ 5 19 15 47 HT_.out ?_
    refine pq_ 6 20 15 111 HT_.out ?_
    refine pq_ 7 21 15 239 HT_.out ?_
    refine pq_ 8 22 15 495 HT_.out ?_
    refine pq_ 9 23 15 1007 HT_.out ?_
    refine pq_ 10 24 15 2031 HT_.out ?_
    refine pq_ 11 25 15 4079 HT_.out ?_
    refine take_ (i := 12) (N := some 26) (v := ?_) (a' := ?_) (bv 15 8175) rfl rfl (take_ofW HT_.out HW_.out (by kernel_rfl)) (fun _ _ _ h => h) (Or.inl ⟨by rfl, ?_⟩) hHeld ?_ ?_
    rotate_left
    ·intro w' s0
     go_simp
     with_reducible rfl
    rotate_left
    ·simp only [Act.put, s1_, s2_, s3_, i64_w, i32_w]
     rfl
    refine oq_ 4 18 15 8191 HT_.out fun K hK => ?_
    refine gs_ Tryd.func19 #[.int .i64 a0, .int .u64 x7_1, .int .u64 a2] ?_
    with_reducible refine (field_Mul.calls a0 x7_1 a2 t168 _ ?side1 A5.out).mono ?_
    (case side1 => exact fU_ HG.out HB.out)
    rintro e w11 ⟨rfl, hb⟩
    refine ⟨_, rfl, ?_⟩
    refine nx1_ (below_step (bU_ HB.out) hb) ?_
    clear HB
    intro HB
    (try clear hb)
    (try clear hb2)
    (try clear hk)
    (try clear hi)
    refine hK.out _ _ (((HB.out.cell (World.block_lt_of_cell? w _ hw169_0)).trans hw169_0)) (fun hHeld => ?_)
    clear hK K
    refine norm_ (a' := ?_) ?_ ?_
    rotate_left
    ·show Act.put _ (some 18) _ = _
     simp only [Act.put, s1_, s2_, s3_, i64_w, i32_w]
     rfl
    refine oq_ 13 27 15 16383 HT_.out fun K hK => ?_
    refine goes_ Tryd.func18 (by kernel_rfl) rfl #[.int .i64 a0, .int .u64 t168, .int .u64 (rd l1 (ji6))] (by rfl) rfl rfl (by (try simp only [List.map_toArray, List.map_cons, List.map_nil]); first | done | (simp only [hji6]; rfl) | rfl | (simp only [List.length_drop, List.length_take]; rfl)) ?_
    with_reducible refine (field_Add.calls a0 t168 (rd l1 (ji6)) t170 _ ?side1 A9.out).mono ?_
    (case side1 => exact fU_ HG.out HB.out)
    rintro e w12 ⟨rfl, hb⟩
    refine ⟨_, rfl, ?_⟩
    refine nx1_ (below_step (bU_ HB.out) hb) ?_
    clear HB
    intro HB
    (try clear hb)
    (try clear hb2)
    (try clear hk)
    (try clear hi)
    refine hK.out _ _ (((HB.out.cell (World.block_lt_of_cell? w _ hw169_0)).trans hw169_0)) (fun hHeld => ?_)
    clear hK K
    refine norm_ (a' := ?_) ?_ ?_
    rotate_left
    ·show Act.put _ (some 27) _ = _
     simp only [Act.put, s1_, s2_, s3_, i64_w, i32_w]
     rfl
    refine pq_ 14 7 15 32767 HT_.out ?_
    refine done_ (done_of HT_.out (by kernel_rfl)) ?_
    try go_wp2
    go_roundg k1
    case measure => have := HK1.out; omega
    case rel => exact ⟨(t170), (wrap64 (x11_1 + 1)), gb_, gb_, H', ⟨by have := HK1.out; omega⟩, ⟨bU_ HB.out⟩⟩
   rw [if_neg c4] at H
   have c4b0 := decide_eq_false c4
   clear c4
   obtain rfl := Option.some.inj H
   go_wp2
   go_ret
   exact ⟨eW_, bU_ HB.out⟩

def fold_At8.f (k : Nat) (a0 a1 : Int) (a2 : List Int) (a3 : Int) : Option Int := if a2.length = 8 then (field_Reduce.f a0 a1).bind fun x => if x = 0 then some 0 else (code_Local.f k a0 3 x a2 0).bind fun l => poly_Eval.f k a0 l a3 else none
def fold_At.f (k : Nat) (a0 a1 : Int) (a2 : List Int) (a3 : Int) : Option Int := fold_At8.f k a0 a1 (pad8 a2) a3
theorem fold_At.mono : ∀ a0 a1 a2 a3 k, LeO (fold_At.f k a0 a1 a2 a3) (fold_At.f (k + 1) a0 a1 a2 a3) := by
 intro a0 a1 a2 a3 k
 unfold fold_At.f fold_At8.f
 exact LeO.ite (LeO.bind (LeO.refl _) fun _ => LeO.ite (LeO.refl _) (LeO.bind (code_Local.mono _ _ _ _ _ _) fun _ => poly_Eval.mono _ _ _ _)) (LeO.refl _)
set_option maxHeartbeats 4000000 in
set_option maxRecDepth 100000 in
theorem fold_At8.calls (k : Nat) (a0 a1 : Int) (a2 : List Int) (a3 r : Int) (w : World) (hG : Fld w) (h : fold_At8.f k a0 a1 a2 a3 = some r) :
  Calls Tryd.prog 14 #[.int .i64 a0, .int .u64 a1, arW .u64 a2, .int .u64 a3] w fun e w' => e = .returned (.int .u64 r) ∧ Below w.heap.size w w' := by
 have HG := ak hG
 have HB := ak (Below.refl w.heap.size w)
 clear hG
 unfold fold_At8.f at h
 obtain ⟨h8, h⟩ := it_ h
 obtain ⟨x, hx, h⟩ := Option.bind_eq_some_iff.mp h
 have HX := ak hx
 clear hx
 have hu := Tryd.underlying24
 go_enter Tryd.func14, Tryd.ntmps14
 go_wp2_with (first | ((with_reducible refine gate_dst (N := 6) rfl ?_); refine hold_ ?_))
 refine ⟨?_⟩
 refine ev_box_ (some 6) 25 (.tmp 2) a2 rfl rfl rfl rfl ?_
 intro B w1 hB hA hb
 have HA := ak hA
 have HBB := ak hB
 have HB1 := ak (below_step HB.out hb)
 clear HB hA hb hB
 have HB := HB1
 clear HB1
 by_cases c1 : x = 0
 ·rw [if_pos c1] at h
  obtain rfl := Option.some.inj h
  have c1b : (x == 0) = true := by simpa using c1
  go_wp2_with (first | ((with_reducible refine gate_callee (f := 22) rfl ?_); refine gl_ (some 12) Tryd.func22 #[.int .i64 a0, .int .u64 a1] ?_; (with_reducible refine (field_Reduce.calls a0 a1 x _ ?side1 HX.out).mono ?_); (case side1 => exact fU_ HG.out HB.out); rintro e w5 ⟨rfl, hb⟩; refine ⟨_, rfl, ?_⟩; refine nx1_ (below_step (bU_ HB.out) hb) ?_; clear HB; intro HB; clear hb))
  go_ret
  exact ⟨rfl, HB.out⟩
 rw [if_neg c1] at h
 have c1b : (x == 0) = false := by simpa using c1
 obtain ⟨l, hl, h⟩ := Option.bind_eq_some_iff.mp h
 have HL := ak hl
 have HE := ak h
 clear hl h
 have h8C : a2.length = 8 := h8
 go_wp2_with (first | ((with_reducible refine gate_callee (f := 22) rfl ?_); refine gl_ (some 12) Tryd.func22 #[.int .i64 a0, .int .u64 a1] ?_; (with_reducible refine (field_Reduce.calls a0 a1 x _ ?side1 HX.out).mono ?_); (case side1 => exact fU_ HG.out HB.out); rintro e w5 ⟨rfl, hb⟩; refine ⟨_, rfl, ?_⟩; refine nx2_ (HA.out.below hb) (below_step (bU_ HB.out) hb) ?_; clear HA HB; intro HA HB; clear hb) | ((with_reducible refine gate_dst (N := 18) rfl ?_); refine hold_ ?_))
 refine ⟨?_⟩
 refine ev_slice_ (some 18) 25 (.tmp 6) B 8 22 rfl rfl rfl rfl uA8 sU ?_
 go_wp2_with (first | ((with_reducible refine gate_callee (f := 23) rfl ?_); refine gl_ (some 19) Tryd.func23 #[.agg #[.int .i64 a0, .int .i64 3, .int .u64 x], .slice (some ⟨B, 0, none⟩) 8 8, .int .i64 0] ?_; refine hold_ ?_))
 refine ⟨?_⟩
 have hC := HA.out.C (by omega)
 have hq := code_Local.calls8 k a0 3 x (some ⟨B, 0, none⟩) 8 a2 0 l _ (fU_ HG.out HB.out) hC (by omega) HL.out
 rw [h8C] at hq
 refine hq.mono ?_
 clear hq hC
 rintro e w6 ⟨rfl, hl8, hb⟩
 refine ⟨_, rfl, ?_⟩
 refine nx1_ (below_step (bU_ HB.out) hb) ?_
 clear HB hb HA HL HX HBB h8C h8
 intro HB
 go_wp2_with ((with_reducible refine gate_dst (N := 9) rfl ?_); refine hold_ ?_)
 refine ⟨?_⟩
 refine ev_alloc_ (some 9) 25 8 rfl rfl rfl zA8.1 ?_
 intro B2 w7 hB2 hA2 hb
 have HB1 := ak (below_step HB.out hb)
 have hB2 := Nat.le_trans (below_size HB.out) hB2
 clear HB hb
 have HB := HB1
 clear HB1
 go_wp2_with ((with_reducible refine gate_store (t := 25) (p := 9) rfl ?_); refine hold_ ?_)
 refine ⟨?_⟩
 refine ev_store_ 25 (.tmp 9) (.tmp 19) B2 _ l rfl rfl rfl rfl rfl hA2 (by simpa using hl8) zA8.2 ?_
 intro w8 hA3 _ hs hw8
 have HA := ak hA3
 have HB1 := ak (hw8 _ _ hB2 HB.out)
 clear HB hA2 hA3 hw8 hs
 have HB := HB1
 clear HB1
 go_wp2_with ((with_reducible refine gate_dst (N := 21) rfl ?_); refine hold_ ?_)
 refine ⟨?_⟩
 refine ev_slice_ (some 21) 25 (.tmp 9) B2 8 22 rfl rfl rfl rfl uA8 sU ?_
 go_wp2_with (first | ((with_reducible refine gate_callee (f := 46) rfl ?_); refine gl_ (some 23) Tryd.func46 #[.int .i64 a0, .slice (some ⟨B2, 0, none⟩) 8 8, .int .u64 a3] ?_; refine hold_ ?_))
 refine ⟨?_⟩
 have hC := HA.out.C (by omega)
 have hq := poly_Eval.calls k a0 (some ⟨B2, 0, none⟩) 8 l a3 r _ (fU_ HG.out HB.out) hC (by omega) HE.out
 rw [hl8] at hq
 refine hq.mono ?_
 clear hq hC
 rintro e w9 ⟨rfl, hb⟩
 refine ⟨_, rfl, ?_⟩
 refine nx1_ (below_step (bU_ HB.out) hb) ?_
 clear HB hb HA
 intro HB
 go_wp2
 go_ret
 exact ⟨rfl, HB.out⟩
theorem fold_At.calls (k : Nat) (a0 a1 : Int) (a2 : List Int) (a3 r : Int) (w : World) (hG : Fld w) (h : fold_At.f k a0 a1 a2 a3 = some r) :
  Calls Tryd.prog 14 #[.int .i64 a0, .int .u64 a1, .agg #[.int .u64 (bco a2 0), .int .u64 (bco a2 1), .int .u64 (bco a2 2), .int .u64 (bco a2 3), .int .u64 (bco a2 4), .int .u64 (bco a2 5), .int .u64 (bco a2 6), .int .u64 (bco a2 7)], .int .u64 a3] w fun e w' => e = .returned (.int .u64 r) ∧ Below w.heap.size w w' := fold_At8.calls k a0 a1 (pad8 a2) a3 r w hG h

def fold_isWord.f (a0_0 : Int) (a0_1 : Int) (a0_2 : Int) (l1 : List Int) : Option (Bool) := (code_Valid.f a0_0 a0_1 a0_2).bind fun t291 => (if t291 = true then ((code_Size.f a0_0 a0_1 a0_2).bind fun t292 => (some ((l1.length : Int) == t292))) else (some false))
set_option maxHeartbeats 8000000 in
set_option maxRecDepth 100000 in
theorem fold_isWord.calls (a0_0 : Int) (a0_1 : Int) (a0_2 : Int) (A1 : Option Addr) (c1 : Nat) (l1 : List Int) (r : Bool) (w : World) (hG : Fld w) (hr1 : Kd.C (Kd.int .u64) w A1 l1.length l1) (hc1 : l1.length ≤ c1) (h : fold_isWord.f a0_0 a0_1 a0_2 l1 = some r) :
  Calls Tryd.prog 53 #[.agg #[.int .i64 a0_0, .int .i64 a0_1, .int .u64 a0_2], .slice A1 l1.length c1] w fun e w' => e = .returned (.bool r) ∧ Below w.heap.size w w' := by
 have hu24 := Tryd.underlying24
 have HG := ak hG
 clear hG
 have HR1 := ak hr1
 have HC1 := ak hc1
 clear hr1 hc1
 have HB := ak (Below.refl w.heap.size w)
 have H := h
 clear h
 unfold fold_isWord.f at H
 revert H
 refine bd_ fun t291 A3 H => ?_
 by_cases c4 : t291 = true
 ·subst c4
  rw [if_pos rfl] at H
  revert H
  refine bd_ fun t292 A5 H => ?_
  obtain rfl := Option.some.inj H
  go_enter Tryd.func53, Tryd.ntmps53
  go_wp2_with (first | ((with_reducible refine gate_dst (N := 2) rfl ?_); (try (refine gate_guard (by rfl) ?_; dsimp only)); refine bx_ 2 24 #[.int .i64 a0_0, .int .i64 a0_1, .int .u64 a0_2] ?_; intro gb290 hg w6 hbox hb; refine nx4_ (below_step (bU_ HB.out) hb) (hbox) ((hs_ hg (below_size (bU_ HB.out)))) ((hs_ hg (below_size (bU_ HB.out)))) ?_; clear HB; intro HB BK290 GW290 GE290; clear hb hbox hg; have hcz7_0 := bc0_ BK290.out; have hcz7_1 := bc1_ BK290.out; have hcz7_2 := bc2_ BK290.out; have hfz7_0 := blk_frozen BK290.out 0; have hfz7_1 := blk_frozen BK290.out 1; have hfz7_2 := blk_frozen BK290.out 2) | ((with_reducible refine gate_callee (f := 38) rfl ?_); refine gl_ (some 6) Tryd.func38 #[.agg #[.int .i64 a0_0, .int .i64 a0_1, .int .u64 a0_2]] ?_; (with_reducible refine (code_Valid.calls a0_0 a0_1 a0_2 true _ ?side1 A3.out).mono ?_); (case side1 => repeat (first | with_reducible exact HG.out | with_reducible exact (Fld.below HG.out HB.out) | exact (Fld.below HG.out sU_) | (with_reducible refine Fld.alloc ?_ _) | (with_reducible refine Fld.drewN ?_ _) | (with_reducible refine Fld.drew ?_))); rintro e w8 ⟨rfl, hb⟩; refine ⟨_, rfl, ?_⟩; refine nx2_ (blk_below (kU_ BK290.out) hb) (below_step sU_ hb) ?_; clear BK290 HB; intro BK290 HB; clear hb; have hcz9_0 := bc0_ BK290.out; have hcz9_1 := bc1_ BK290.out; have hcz9_2 := bc2_ BK290.out; have hfz9_0 := blk_frozen BK290.out 0; have hfz9_1 := blk_frozen BK290.out 1; have hfz9_2 := blk_frozen BK290.out 2) | (go_at_call 33; (with_reducible refine (code_Size.calls a0_0 a0_1 a0_2 t292 _ ?side1 A5.out).mono ?_); (case side1 => repeat (first | with_reducible exact HG.out | with_reducible exact (Fld.below HG.out HB.out) | exact (Fld.below HG.out sU_) | (with_reducible refine Fld.alloc ?_ _) | (with_reducible refine Fld.drewN ?_ _) | (with_reducible refine Fld.drew ?_))); rintro e w10 ⟨rfl, hb⟩; refine nx2_ (blk_below (kU_ BK290.out) hb) (below_step sU_ hb) ?_; clear BK290 HB; intro BK290 HB; clear hb))
  go_ret
  exact ⟨eW_, sU_⟩
 replace c4 := Bool.eq_false_iff.mpr c4
 subst c4
 rw [if_neg (show ¬ (false = true) by decide)] at H
 obtain rfl := Option.some.inj H
 go_enter Tryd.func53, Tryd.ntmps53
 go_wp2_with (first | ((with_reducible refine gate_dst (N := 2) rfl ?_); (try (refine gate_guard (by rfl) ?_; dsimp only)); refine bx_ 2 24 #[.int .i64 a0_0, .int .i64 a0_1, .int .u64 a0_2] ?_; intro gb290 hg w11 hbox hb; refine nx4_ (below_step (bU_ HB.out) hb) (hbox) ((hs_ hg (below_size (bU_ HB.out)))) ((hs_ hg (below_size (bU_ HB.out)))) ?_; clear HB; intro HB BK290 GW290 GE290; clear hb hbox hg; have hcz12_0 := bc0_ BK290.out; have hcz12_1 := bc1_ BK290.out; have hcz12_2 := bc2_ BK290.out; have hfz12_0 := blk_frozen BK290.out 0; have hfz12_1 := blk_frozen BK290.out 1; have hfz12_2 := blk_frozen BK290.out 2) | ((with_reducible refine gate_callee (f := 38) rfl ?_); refine gl_ (some 6) Tryd.func38 #[.agg #[.int .i64 a0_0, .int .i64 a0_1, .int .u64 a0_2]] ?_; (with_reducible refine (code_Valid.calls a0_0 a0_1 a0_2 false _ ?side1 A3.out).mono ?_); (case side1 => repeat (first | with_reducible exact HG.out | with_reducible exact (Fld.below HG.out HB.out) | exact (Fld.below HG.out sU_) | (with_reducible refine Fld.alloc ?_ _) | (with_reducible refine Fld.drewN ?_ _) | (with_reducible refine Fld.drew ?_))); rintro e w13 ⟨rfl, hb⟩; refine ⟨_, rfl, ?_⟩; refine nx2_ (blk_below (kU_ BK290.out) hb) (below_step sU_ hb) ?_; clear BK290 HB; intro BK290 HB; clear hb))
 go_ret
 exact ⟨eW_, sU_⟩

def fold_Word.l0 : Nat → Int → Int → Int → List Int → Int → Nat → List Int → Nat → Option (List Int)
 | 0, _, _, _, _, _, _, _, _ => none
 | k + 1, d0, d1, d2, l, z, n, out, i => if i < n then (code_Local.f k d0 d1 d2 l (i : Int)).bind fun p => (poly_Eval.f k d0 p z).bind fun y => fold_Word.l0 k d0 d1 d2 l z n (out.set i y) (i + 1) else some out
def fold_Word.f (k : Nat) (d0 d1 d2 : Int) (l : List Int) (z : Int) : Option (List Int × Int) := (fold_isWord.f d0 d1 d2 l).bind fun b => if b = true then if d1 < 3 then some ([], 2) else if l.length / 8 ≤ 35184372088832 then (fold_Word.l0 k d0 d1 d2 l z (l.length / 8) (List.replicate (l.length / 8) 0) 0).bind fun o => some (o, 0) else none else some ([], 1)
theorem fold_Word.mono_l : ∀ k d0 d1 d2 l z n out i, LeO (fold_Word.l0 k d0 d1 d2 l z n out i) (fold_Word.l0 (k + 1) d0 d1 d2 l z n out i)
 | 0, _, _, _, _, _, _, _, _ => fun r h => by simp [fold_Word.l0] at h
 | k + 1, d0, d1, d2, l, z, n, out, i => by
  rw [fold_Word.l0, fold_Word.l0]
  exact LeO.ite (LeO.bind (code_Local.mono _ _ _ _ _ _) fun _ => LeO.bind (poly_Eval.mono _ _ _ _) fun _ => fold_Word.mono_l _ _ _ _ _ _ _ _ _) (LeO.refl _)
theorem fold_Word.mono : ∀ d0 d1 d2 l z k, LeO (fold_Word.f k d0 d1 d2 l z) (fold_Word.f (k + 1) d0 d1 d2 l z) := by
 intro d0 d1 d2 l z k
 unfold fold_Word.f
 exact LeO.bind (LeO.refl _) fun _ => LeO.ite (LeO.ite (LeO.refl _) (LeO.ite (LeO.bind (fold_Word.mono_l _ _ _ _ _ _ _ _ _) fun _ => LeO.refl _) (LeO.refl _))) (LeO.refl _)
set_option maxHeartbeats 8000000 in
set_option maxRecDepth 100000 in
theorem fold_Word.calls (k : Nat) (a0_0 a0_1 a0_2 : Int) (A1 : Option Addr) (c1 : Nat) (l1 : List Int) (z : Int) (r1 : List Int) (r2 : Int) (w : World) (hG : Fld w) (hr1 : Kd.C (Kd.int .u64) w A1 l1.length l1) (hc1 : l1.length ≤ c1) (h : fold_Word.f k a0_0 a0_1 a0_2 l1 z = some (r1, r2)) :
  Calls Tryd.prog 20 #[.agg #[.int .i64 a0_0, .int .i64 a0_1, .int .u64 a0_2], .slice A1 l1.length c1, .int .u64 z] w fun e w' => ∃ v0_ : Value, e = .returned (.tuple #[v0_, .int .i64 r2]) ∧ Kd.R (Kd.int .u64) 22 w' w.heap.size (fun _ => True) v0_ r1 ∧ Below w.heap.size w w' := by
 have hu := Tryd.underlying24
 have HG := ak hG
 have HR1 := ak hr1
 have HC1 := ak hc1
 clear hG hr1 hc1
 have HB := ak (Below.refl w.heap.size w)
 unfold fold_Word.f at h
 obtain ⟨b, hw, h⟩ := Option.bind_eq_some_iff.mp h
 have HW := ak hw
 clear hw
 by_cases c0 : b = true
 ·subst c0
  rw [if_pos rfl] at h
  by_cases q1 : a0_1 < 3
  ·rw [if_pos q1] at h
   simp only [Option.some.injEq, Prod.mk.injEq] at h
   obtain ⟨rfl, rfl⟩ := h
   have c1b : decide (a0_1 < 3) = true := decide_eq_true q1
   go_enter Tryd.func20, Tryd.ntmps20
   go_wp2_with (first | ((with_reducible refine gate_dst (N := 3) rfl ?_); (try (refine gate_guard (by rfl) ?_; dsimp only)); refine bx_ 3 24 #[.int .i64 a0_0, .int .i64 a0_1, .int .u64 a0_2] ?_; intro gb hg w1 hbox hb; refine nx3_ (below_step (bU_ HB.out) hb) hbox ((hs_ hg (below_size (bU_ HB.out)))) ?_; clear HB; intro HB BK GW; clear hb hbox hg; have hczw1_0 := bc0_ BK.out; have hczw1_1 := bc1_ BK.out; have hczw1_2 := bc2_ BK.out; have hfzw1_0 := blk_frozen BK.out 0; have hfzw1_1 := blk_frozen BK.out 1; have hfzw1_2 := blk_frozen BK.out 2) | ((with_reducible refine gate_callee (f := 53) rfl ?_); refine gl_ (some 14) Tryd.func53 #[.agg #[.int .i64 a0_0, .int .i64 a0_1, .int .u64 a0_2], .slice A1 l1.length c1] ?_; refine hold_ ?_))
   refine ⟨?_⟩
   refine (fold_isWord.calls a0_0 a0_1 a0_2 A1 c1 l1 true _ (fU_ HG.out HB.out) (C_below HR1.out HB.out) HC1.out HW.out).mono ?_
   rintro e w3 ⟨rfl, hb⟩
   refine ⟨_, rfl, ?_⟩
   clear hczw1_0 hfzw1_0 hczw1_1 hfzw1_1 hczw1_2 hfzw1_2
   refine nx2_ (below_step (bU_ HB.out) hb) (bk_ BK.out hb) ?_
   clear HB BK hb
   intro HB BK
   have hczw3_0 := bc0_ BK.out; have hczw3_1 := bc1_ BK.out; have hczw3_2 := bc2_ BK.out; have hfzw3_0 := blk_frozen BK.out 0; have hfzw3_1 := blk_frozen BK.out 1; have hfzw3_2 := blk_frozen BK.out 2
   go_wp2
   refine bodyPost_ret (results_tmp2 rfl _ _ _) rfl ?_
   exact ⟨_, rfl, Kd.R_nil _ _ _ _ _, HB.out⟩

  rw [if_neg q1] at h
  have c1b : decide (a0_1 < 3) = false := decide_eq_false q1
  obtain ⟨hlim, h⟩ := it_ h
  obtain ⟨o, ho, h⟩ := Option.bind_eq_some_iff.mp h
  simp only [Option.some.injEq, Prod.mk.injEq] at h
  obtain ⟨rfl, rfl⟩ := h
  have HL := ak ho
  clear ho
  go_enter Tryd.func20, Tryd.ntmps20
  go_wp2_with (first | ((with_reducible refine gate_dst (N := 3) rfl ?_); (try (refine gate_guard (by rfl) ?_; dsimp only)); refine bx_ 3 24 #[.int .i64 a0_0, .int .i64 a0_1, .int .u64 a0_2] ?_; intro gb hg w1 hbox hb; refine nx3_ (below_step (bU_ HB.out) hb) hbox ((hs_ hg (below_size (bU_ HB.out)))) ?_; clear HB; intro HB BK GW; clear hb hbox hg; have hczw1_0 := bc0_ BK.out; have hczw1_1 := bc1_ BK.out; have hczw1_2 := bc2_ BK.out; have hfzw1_0 := blk_frozen BK.out 0; have hfzw1_1 := blk_frozen BK.out 1; have hfzw1_2 := blk_frozen BK.out 2) | ((with_reducible refine gate_callee (f := 53) rfl ?_); refine gl_ (some 14) Tryd.func53 #[.agg #[.int .i64 a0_0, .int .i64 a0_1, .int .u64 a0_2], .slice A1 l1.length c1] ?_; refine hold_ ?_))
  refine ⟨?_⟩
  refine (fold_isWord.calls a0_0 a0_1 a0_2 A1 c1 l1 true _ (fU_ HG.out HB.out) (C_below HR1.out HB.out) HC1.out HW.out).mono ?_
  rintro e w3 ⟨rfl, hb⟩
  refine ⟨_, rfl, ?_⟩
  clear hczw1_0 hfzw1_0 hczw1_1 hfzw1_1 hczw1_2 hfzw1_2
  refine nx2_ (below_step (bU_ HB.out) hb) (bk_ BK.out hb) ?_
  clear HB BK hb
  intro HB BK
  have hczw3_0 := bc0_ BK.out; have hczw3_1 := bc1_ BK.out; have hczw3_2 := bc2_ BK.out; have hfzw3_0 := blk_frozen BK.out 0; have hfzw3_1 := blk_frozen BK.out 1; have hfzw3_2 := blk_frozen BK.out 2
  have en : (l1.length : Int) / 8 = ((l1.length / 8 : Nat) : Int) := by omega
  obtain ⟨n, hn⟩ : ∃ n, n = l1.length / 8 := ⟨_, rfl⟩
  rw [← hn] at en HL hlim
  clear hn
  go_wp2_with ((with_reducible refine gate_dst (N := 23) rfl ?_); refine hold_ ?_)
  (try rw [en])
  refine ⟨?_⟩
  refine R_make (Kd.int .u64) _ 22 rfl (N := 23) rfl 33 _ _ rfl (n : Int) ?hx ?hy Tryd.underlying33 (.int .u64 0) 8 info22 rfl (by decide) (by omega) 0 (ok := fun _ => True) (okp := fun _ => True) rfl (fun _ hk => hk) trivial (by omega) (Nat.le_trans (Nat.mul_le_mul_right _ (show (n : Int).toNat ≤ 35184372088832 by omega)) (by omega)) (Below.refl _ _) (Nat.le_refl _) ?_
  ·rfl
  ·rfl
  intro v0 w4 ho hb _ _
  have g3 := bk_lt BK.out
  clear hczw3_0 hfzw3_0 hczw3_1 hfzw3_1 hczw3_2 hfzw3_2
  have HBS := ak (And.intro (below_size HB.out) g3)
  generalize w3.heap.size = bs at ho HBS
  refine nx3_ (below_step (bU_ HB.out) hb) (bk_ BK.out hb) ho ?_
  clear HB BK hb ho g3
  intro HB BK HO
  rw [show ((n : Int)).toNat = n from Int.toNat_natCast _] at HO
  obtain ⟨Ao, co, eo⟩ := R_slice HO.out
  subst eo
  rw [show (List.replicate n (0 : Int)).length = n from List.length_replicate] at HO ⊢
  go_wp2
  go_loopg [26] k (fun kq v26 w' => ∃ (i : Nat) (out : List Int), v26 = .int .i64 (i : Int) ∧ Aside0 (fold_Word.l0 kq a0_0 a0_1 a0_2 l1 z n out i = some o) ∧ Aside0 (kq ≤ k) ∧ Aside0 (out.length = n) ∧ Aside0 (w'.heap[gb]? = some (.cells #[.int .i64 a0_0, .int .i64 a0_1, .int .u64 a0_2] 24 (0, 0))) ∧ Aside0 (Kd.R (Kd.int .u64) 22 w' bs (fun _ => True) (.slice Ao n co) out) ∧ Aside0 (Below w.heap.size w w'))
  case atStart => exact ⟨0, _, rfl, HL, ⟨Nat.le_refl _⟩, ⟨List.length_replicate⟩, BK, HO, HB⟩
  case round =>
   clear HL BK HO HB
   obtain ⟨i, out, rfl, HX, HK, HLN, BK, HO, HB⟩ := hrel
   cases gk with
   | zero => exact absurd HX.out (by simp [fold_Word.l0])
   | succ k1 =>
    have H := HX.out
    clear HX
    rw [fold_Word.l0] at H
    by_cases c3 : i < n
    ·rw [if_pos c3] at H
     have e1 : decide ((i : Int) < (n : Int)) = true := by simp; omega
     obtain ⟨p, hp, H⟩ := Option.bind_eq_some_iff.mp H
     obtain ⟨y, hy, H⟩ := Option.bind_eq_some_iff.mp H
     have HP := ak hp
     have HY := ak hy
     have HX := ak H
     clear hp hy H
     have hczwr_0 := bc0_ BK.out; have hczwr_1 := bc1_ BK.out; have hczwr_2 := bc2_ BK.out; have hfzwr_0 := blk_frozen BK.out 0; have hfzwr_1 := blk_frozen BK.out 1; have hfzwr_2 := blk_frozen BK.out 2
     go_wp2_with (first | ((with_reducible refine gate_callee (f := 23) rfl ?_); refine gl_ (some 32) Tryd.func23 #[.agg #[.int .i64 a0_0, .int .i64 a0_1, .int .u64 a0_2], .slice A1 l1.length c1, .int .i64 (i : Int)] ?_; refine hold_ ?_))
     refine ⟨?_⟩
     refine (code_Local.calls8 k1 a0_0 a0_1 a0_2 A1 c1 l1 (i : Int) p _ (fU_ HG.out HB.out) (C_below HR1.out HB.out) HC1.out HP.out).mono ?_
     rintro e w5 ⟨rfl, hl8, hb⟩
     refine ⟨_, rfl, ?_⟩
     clear hczwr_0 hfzwr_0 hczwr_1 hfzwr_1 hczwr_2 hfzwr_2
     refine nx3_ (below_step (bU_ HB.out) hb) (bk_ BK.out hb) (R_below (rU_ HO.out) hb) ?_
     clear HB BK HO hb
     intro HB BK HO
     go_wp2_with ((with_reducible refine gate_dst (N := 10) rfl ?_); refine hold_ ?_)
     refine ⟨?_⟩
     refine ev_alloc_ (some 10) 25 8 rfl rfl rfl zA8.1 ?_
     intro Bl w6 hBl hA hb
     have GBL := ak (Nat.le_trans (below_size HB.out) hBl)
     have hne := ak (show gb ≠ Bl by have := bk_lt BK.out; omega)
     have hno : ∀ q, (Value.slice Ao n co).ownBlock = some q → q ≠ Bl := fun q hq => by have := own_lt (Kd.R_own HO.out).choose_spec q hq; omega
     refine nx4_ (below_step (bU_ HB.out) hb) (bk_ BK.out hb) (R_below (rU_ HO.out) hb) hA ?_
     clear HB BK HO hb hA hBl
     intro HB BK HO HA
     go_wp2_with ((with_reducible refine gate_store (t := 25) (p := 10) rfl ?_); refine hold_ ?_)
     refine ⟨?_⟩
     refine ev_store_ 25 (.tmp 10) (.tmp 32) Bl _ p rfl rfl rfl rfl rfl HA.out (by simpa using hl8) zA8.2 ?_
     intro w7 hA hgr hs hw8
     have hO2 : Kd.R (Kd.int .u64) 22 w7 bs (fun _ => True) (.slice Ao n co) out := by
      obtain ⟨h0, inner, ho_, hr_⟩ := HO.out
      exact ⟨h0, inner, own_other ho_ hgr (by
       cases Ao with
       | none => exact Or.inl rfl
       | some ad => exact Or.inr (fun e => hno _ rfl (Option.some.inj e))), hr_⟩
     refine nx4_ (hw8 _ _ GBL.out HB.out) (bk_grown BK.out hgr hne.out) hO2 hA ?_
     clear HB BK HO HA hA hgr hw8 hs hO2 hno
     intro HB BK HO HA
     have hio : (i : Int) < (out.length : Int) := by have := HLN.out; omega
     rw [← HLN.out] at HO ⊢
     obtain ⟨g, c, eo, gb_, gl, cl, hgg⟩ := Kd.R_form HO.out (by omega)
     injection eo with ea_ en_ ec_
     subst ea_
     subst ec_
     rw [HLN.out] at HO ⊢
     go_wp2
     refine start_ (n := 9) (S := fun w' => w'.heap[gb]? = some (.cells #[.int .i64 a0_0, .int .i64 a0_1, .int .u64 a0_2] 24 (0, 0)) ∧ Arr w' Bl 25 p) (ds := [8]) (bv 9 0) (by kernel_rfl) rfl rfl ⟨bk_ BK.out (below_drew1 (Below.refl _ _)), HA.out.below (below_drew1 (Below.refl _ _))⟩ (fun hHeld => ?_)
     refine nx2_ (R_below HO.out (below_drew1 (Below.refl _ _))) (below_drew1 HB.out) ?_
     clear BK HA HO HB
     intro HO HB
     generalize w7.drew = w8 at HO HB hHeld ⊢
     have HT_ : Aside0 (rtab .any (opsOf Tryd.f20 10) = rtab .any (opsOf Tryd.f20 10)) := ⟨rfl⟩
     refine pq_ 0 33 9 1 HT_.out ?_
     refine pq_ 1 34 9 3 HT_.out ?_
     refine pq_ 2 35 9 7 HT_.out ?_
     refine take_ (i := 3) (N := some 36) (v := ?_) (a' := ?_) (bv 9 15) rfl rfl (take_of HT_.out (by kernel_rfl)) (fun _ _ _ h => h) (Or.inl ⟨by rfl, ?_⟩) hHeld ?_ ?_
     rotate_left
     ·rintro w' ⟨s0, s1⟩
      have z0 : w'.cell? ⟨gb, 0, none⟩ = some (.int .i64 a0_0) := (blk_cell s0 0).trans rfl
      have z1 : w'.cell? ⟨gb, 1, none⟩ = some (.int .i64 a0_1) := (blk_cell s0 1).trans rfl
      have z2 : w'.cell? ⟨gb, 2, none⟩ = some (.int .u64 a0_2) := (blk_cell s0 2).trans rfl
      go_simp
      with_reducible rfl
     rotate_left
     ·simp only [Act.put, s1_, s2_, s3_, i64_w, i32_w]
      rfl
     refine pr_ (i := 4) (N := some 37) (v := .slice (some ⟨Bl, 0, none⟩) 8 8) (a' := ?_) (bv 9 31) HT_.out ?_ ?_ ?_; rotate_left 1; (intro w'; exact exec_slice_ rfl rfl uA8 sU w'); (simp only [Act.put, s1_, s2_, s3_, i64_w, i32_w]; rfl)
     refine pq_ 5 38 9 63 HT_.out ?_
     have hio2 : (i : Int) < (n : Int) := by omega
     refine oq_ 6 39 9 127 HT_.out fun K hK => ?_
     refine gs_ Tryd.func46 #[.int .i64 a0_0, .slice (some ⟨Bl, 0, none⟩) 8 8, .int .u64 z] ?_
     have hq := poly_Eval.calls k1 a0_0 (some ⟨Bl, 0, none⟩) 8 p z y w8 (fU_ HG.out HB.out) (hHeld.2.C (by omega)) (by omega) HY.out
     rw [hl8] at hq
     refine hq.mono ?_
     clear hq
     rintro e w9 ⟨rfl, hb⟩
     refine ⟨_, rfl, ?_⟩
     refine nx3_ (bk_ hHeld.1 hb) (R_below (rU_ HO.out) hb) (below_step (bU_ HB.out) hb) ?_
     clear HO HB
     intro BK HO HB
     refine hK.out _ _ ⟨bk_ hHeld.1 hb, hHeld.2.below hb⟩ (fun hHeld => ?_)
     clear hK K hb
     refine norm_ (a' := ?_) ?_ ?_
     rotate_left
     ·show Act.put _ (some 39) _ = _
      simp only [Act.put, s1_, s2_, s3_, i64_w, i32_w]
      rfl
     refine pq_ 7 40 9 255 HT_.out ?_
     obtain ⟨hx, hf⟩ := Kd.R_celln 0 HO.out (i : Int) (by omega) hio2
     rw [Int.toNat_natCast] at hx hf
     have HP := Kd.R_putg HO.out (i : Int) y
     rw [Int.toNat_natCast] at HP
     have gb2 := Nat.le_trans HBS.out.1 gb_
     refine last_ (i := 8) (N := none) (bv 9 511) rfl rfl (one_of HT_.out (by kernel_rfl)) (by decide) (fun K hK => ?_)
     refine skip_ (w1 := w9.setCell ⟨g, i, none⟩ (.int .u64 y)) (by rfl) rfl ?_ ?_
     ·go_simp
     refine hK.out _ _ ?_
     clear hK K hHeld hx hf
     have hgb : gb ≠ g := by have := HBS.out.2; omega
     refine nx3_ HP.1 (bk_grown BK.out HP.2 hgb) (below_set HB.out gb2 : Below w.heap.size w (w9.setCell ⟨g, i, none⟩ (.int .u64 y))) ?_
     clear HO BK HB HP
     intro HO BK HB
     refine done_ (done_of HT_.out (by kernel_rfl)) ?_
     go_wp2
     go_roundg k1
     case measure => have := HK.out; omega
     case rel => exact ⟨i + 1, out.set i y, by first | rfl | (simp; done) | (simp [*]; done), HX, ⟨by have := HK.out; omega⟩, ⟨by rw [List.length_set]; exact HLN.out⟩, BK, ⟨rU_ HO.out⟩, HB⟩
    rw [if_neg c3] at H
    obtain rfl := Option.some.inj H
    clear H
    have e1 : decide ((i : Int) < (n : Int)) = false := by simp; omega
    go_wp2
    refine bodyPost_ret (results_tmp2 rfl _ _ _) rfl ?_
    exact ⟨_, rfl, R_lower HO.out HBS.out.1, HB.out⟩

 rw [if_neg c0] at h
 simp only [Option.some.injEq, Prod.mk.injEq] at h
 obtain ⟨rfl, rfl⟩ := h
 obtain rfl : b = false := by simpa using c0
 go_enter Tryd.func20, Tryd.ntmps20
 go_wp2_with (first | ((with_reducible refine gate_dst (N := 3) rfl ?_); (try (refine gate_guard (by rfl) ?_; dsimp only)); refine bx_ 3 24 #[.int .i64 a0_0, .int .i64 a0_1, .int .u64 a0_2] ?_; intro gb hg w1 hbox hb; refine nx3_ (below_step (bU_ HB.out) hb) hbox ((hs_ hg (below_size (bU_ HB.out)))) ?_; clear HB; intro HB BK GW; clear hb hbox hg; have hczw1_0 := bc0_ BK.out; have hczw1_1 := bc1_ BK.out; have hczw1_2 := bc2_ BK.out; have hfzw1_0 := blk_frozen BK.out 0; have hfzw1_1 := blk_frozen BK.out 1; have hfzw1_2 := blk_frozen BK.out 2) | ((with_reducible refine gate_callee (f := 53) rfl ?_); refine gl_ (some 14) Tryd.func53 #[.agg #[.int .i64 a0_0, .int .i64 a0_1, .int .u64 a0_2], .slice A1 l1.length c1] ?_; refine hold_ ?_))
 refine ⟨?_⟩
 refine (fold_isWord.calls a0_0 a0_1 a0_2 A1 c1 l1 false _ (fU_ HG.out HB.out) (C_below HR1.out HB.out) HC1.out HW.out).mono ?_
 rintro e w3 ⟨rfl, hb⟩
 refine ⟨_, rfl, ?_⟩
 clear hczw1_0 hfzw1_0 hczw1_1 hfzw1_1 hczw1_2 hfzw1_2
 refine nx2_ (below_step (bU_ HB.out) hb) (bk_ BK.out hb) ?_
 clear HB BK hb
 intro HB BK
 have hczw3_0 := bc0_ BK.out; have hczw3_1 := bc1_ BK.out; have hczw3_2 := bc2_ BK.out; have hfzw3_0 := blk_frozen BK.out 0; have hfzw3_1 := blk_frozen BK.out 1; have hfzw3_2 := blk_frozen BK.out 2
 go_wp2
 refine bodyPost_ret (results_tmp2 rfl _ _ _) rfl ?_
 exact ⟨_, rfl, Kd.R_nil _ _ _ _ _, HB.out⟩


def attestorlaw09_same.l0 : Nat → List Int → List Int → Int → Option (Bool)
 | 0, _, _, _ => none
 | k + 1, x0, x1, x5 => if x5 < (x0.length : Int) then (if 0 ≤ x5 then (if x5 < (x1.length : Int) then (if (rd x0 x5) = (rd x1 x5) then (attestorlaw09_same.l0 k x0 x1 (wrap64 (x5 + 1))) else (some false)) else (none)) else (none)) else (some true)
def attestorlaw09_same.f (k : Nat) (l0 : List Int) (l1 : List Int) : Option (Bool) := if (l0.length : Int) = (l1.length : Int) then (attestorlaw09_same.l0 k l0 l1 0) else (some false)
theorem attestorlaw09_same.mono_l : ∀ k, (∀ y0 y1 y2, LeO (attestorlaw09_same.l0 k y0 y1 y2) (attestorlaw09_same.l0 (k + 1) y0 y1 y2))
 | 0 => fun _ _ _ r h => by simp [attestorlaw09_same.l0] at h
 | k + 1 => by
  have ih0 := attestorlaw09_same.mono_l k
  ·intro y0 y1 y2
   unfold attestorlaw09_same.l0
   with_reducible repeat' first | apply ih0 | exact LeO.refl _ | exact LeO.none _ | refine LeO.ite ?_ ?_ | refine LeO.bind ?_ (fun _ => ?_)
theorem attestorlaw09_same.mono : ∀ a0 a1 k, LeO (attestorlaw09_same.f k a0 a1) (attestorlaw09_same.f (k + 1) a0 a1) := by
 intro a0 a1 k
 have ih0 := attestorlaw09_same.mono_l k
 unfold attestorlaw09_same.f
 with_reducible repeat' first | apply ih0 | exact LeO.refl _ | exact LeO.none _ | refine LeO.ite ?_ ?_ | refine LeO.bind ?_ (fun _ => ?_)
set_option maxHeartbeats 8000000 in
set_option maxRecDepth 100000 in
theorem attestorlaw09_same.calls (k : Nat) (A0 : Option Addr) (c0 : Nat) (l0 : List Int) (A1 : Option Addr) (c1 : Nat) (l1 : List Int) (r : Bool) (w : World) (hr0 : Kd.C (Kd.int .u64) w A0 l0.length l0) (hc0 : l0.length ≤ c0) (hr1 : Kd.C (Kd.int .u64) w A1 l1.length l1) (hc1 : l1.length ≤ c1) (h : attestorlaw09_same.f k l0 l1 = some r) :
  Calls Tryd.prog 21 #[.slice A0 l0.length c0, .slice A1 l1.length c1] w fun e w' => e = .returned (.bool r) ∧ Drawn0 w w' := by
 have HR0 := ak hr0
 have HC0 := ak hc0
 clear hr0 hc0
 have HR1 := ak hr1
 have HC1 := ak hc1
 clear hr1 hc1
 have H : (if (l0.length : Int) = (l1.length : Int) then (attestorlaw09_same.l0 k l0 l1 0) else (some false)) = some r := h
 clear h
 by_cases c3 : (l0.length : Int) = (l1.length : Int)
 ·rw [if_pos c3] at H
  have c3b0 := beq_iff_eq.mpr c3
  have c3b1 := bne_eq_false_iff_eq.mpr c3
  have c3b2 : (l0.length == l1.length) = true := by first | simpa using c3 | (simp at c3 ⊢; omega)
  clear c3
  have H' := ak H
  clear H
  go_enter Tryd.func21, Tryd.ntmps21
  go_wp2
  repeat (go_quiet (fail); try go_wp2)
  go_loopg [5] k (fun kq v5 w' => ∃ (x5_1 : Int), v5 = .int .i64 x5_1 ∧ Aside0 (attestorlaw09_same.l0 kq l0 l1 x5_1 = some r) ∧ Aside0 (kq ≤ k) ∧ Drawn0 w w')
  case atStart => exact ⟨(0), gb_, H', ⟨Nat.le_refl _⟩, by repeat (first | exact Drawn0.refl _ | apply Drawn0.step)⟩
  case round =>
   clear H'
   (try clear c1); (try clear c2); (try clear p2); (try clear c3); (try clear c3b0); (try clear c3b1); (try clear c3b2)
   obtain ⟨x5_1, rfl, HA, HK1, ⟨m1, rfl⟩⟩ := hrel
   cases gk with
   | zero => exact absurd HA.out (by simp [attestorlaw09_same.l0])
   | succ k1 =>
    have H := HA.out
    clear HA
    simp only [attestorlaw09_same.l0] at H
    by_cases c4 : x5_1 < (l0.length : Int)
    ·rw [if_pos c4] at H
     have c4b0 := decide_eq_true c4
     clear c4
     obtain ⟨c5, H⟩ : (0 ≤ x5_1) ∧ _ := it_ H
     have c5b0 := decide_eq_true c5
     clear c5
     obtain ⟨c6, H⟩ : (x5_1 < (l1.length : Int)) ∧ _ := it_ H
     have c6b0 := decide_eq_true c6
     clear c6
     by_cases c7 : (rd l0 x5_1) = (rd l1 x5_1)
     ·rw [if_pos c7] at H
      have c7b0 := beq_iff_eq.mpr c7
      have c7b1 := bne_eq_false_iff_eq.mpr c7
      clear c7
      have H' := ak H
      clear H
      have p293 : 0 ≤ (x5_1 : Int) := od_
      have q293 : x5_1 < (l0.length : Int) := od_
      obtain ⟨ad293, e293, hx293_0⟩ := Kd.at_int HR0.out x5_1 p293 q293
      cases e293
      replace p293 := eq_true p293
      replace q293 := eq_true q293
      have p294 : 0 ≤ (x5_1 : Int) := od_
      have q294 : x5_1 < (l1.length : Int) := od_
      obtain ⟨ad294, e294, hx294_0⟩ := Kd.at_int HR1.out x5_1 p294 q294
      cases e294
      replace p294 := eq_true p294
      replace q294 := eq_true q294
      go_wp2
      repeat (go_quiet (fail); try go_wp2)
      go_roundg k1
      case measure => have := HK1.out; omega
      case rel => exact ⟨(wrap64 (x5_1 + 1)), gb_, H', ⟨by have := HK1.out; omega⟩, by repeat (first | exact Drawn0.refl _ | apply Drawn0.step)⟩
     rw [if_neg c7] at H
     have c7b0 := beq_eq_false_iff_ne.mpr c7
     have c7b1 := bne_iff_ne.mpr c7
     obtain rfl := Option.some.inj H
     have p293 : 0 ≤ (x5_1 : Int) := od_
     have q293 : x5_1 < (l0.length : Int) := od_
     obtain ⟨ad293, e293, hx293_0⟩ := Kd.at_int HR0.out x5_1 p293 q293
     cases e293
     replace p293 := eq_true p293
     replace q293 := eq_true q293
     have p294 : 0 ≤ (x5_1 : Int) := od_
     have q294 : x5_1 < (l1.length : Int) := od_
     obtain ⟨ad294, e294, hx294_0⟩ := Kd.at_int HR1.out x5_1 p294 q294
     cases e294
     replace p294 := eq_true p294
     replace q294 := eq_true q294
     go_wp2
     repeat (go_quiet (fail); try go_wp2)
     go_ret
     exact ⟨by first | rfl | (simp; done) | (simp [*]; done), by repeat (first | exact Drawn0.refl _ | apply Drawn0.step)⟩
    rw [if_neg c4] at H
    have c4b0 := decide_eq_false c4
    clear c4
    obtain rfl := Option.some.inj H
    go_wp2
    repeat (go_quiet (fail); try go_wp2)
    go_ret
    exact ⟨by first | rfl | (simp; done) | (simp [*]; done), by repeat (first | exact Drawn0.refl _ | apply Drawn0.step)⟩
 rw [if_neg c3] at H
 have c3b0 := beq_eq_false_iff_ne.mpr c3
 have c3b1 := bne_iff_ne.mpr c3
 have c3b2 : (l0.length == l1.length) = false := by first | simpa using c3 | (simp at c3 ⊢; omega)
 obtain rfl := Option.some.inj H
 go_enter Tryd.func21, Tryd.ntmps21
 go_wp2
 repeat (go_quiet (fail); try go_wp2)
 go_ret
 exact ⟨by first | rfl | (simp; done) | (simp [*]; done), by repeat (first | exact Drawn0.refl _ | apply Drawn0.step)⟩

def attestorlaw09_powers.f : Option (List Int) := some [1, 64, 22, 50, 96, 33, 75, 47]
set_option maxHeartbeats 4000000 in
set_option maxRecDepth 100000 in
theorem attestorlaw09_powers.calls0 (w : World) :
  Calls Tryd.prog 35 #[] w fun e w' => e = .returned (arW .u64 [1, 64, 22, 50, 96, 33, 75, 47]) ∧ Below w.heap.size w w' := by
 have hb : ∀ w : World, (Instr.build 25 #[(0, .int .u64 1), (1, .int .u64 64), (2, .int .u64 22), (3, .int .u64 50), (4, .int .u64 96), (5, .int .u64 33), (6, .int .u64 75), (7, .int .u64 47)]).run Tryd.prog w = .ok (arW .u64 [1, 64, 22, 50, 96, 33, 75, 47]) w := fun _ => by rfl
 go_enter Tryd.func35, Tryd.ntmps35
 go_wp2_with (first | ((with_reducible refine gate_dst (N := 0) rfl ?_); refine hold_ ?_) | ((with_reducible refine gate_store (t := 25) (p := 0) rfl ?_); refine hold_ ?_))
 refine ⟨?_⟩
 refine ev_alloc_ (some 0) 25 8 rfl rfl rfl zA8.1 ?_
 intro B w1 hB hA hw1
 go_wp2_with ((with_reducible refine gate_store (t := 25) (p := 0) rfl ?_); refine hold_ ?_)
 refine ⟨?_⟩
 refine ev_store_ 25 (.tmp 0) (.tmp 1) B _ [1, 64, 22, 50, 96, 33, 75, 47] rfl rfl rfl rfl rfl hA rfl zA8.2 ?_
 intro w2 hA2 _ hs hw2
 go_wp2
 refine bodyPost_ret (results_arr rfl _ _ rfl hA2 uA8 zA8.2) rfl ?_
 exact ⟨rfl, hw2 _ _ hB hw1⟩
theorem attestorlaw09_powers.calls (r : List Int) (w : World) (h : attestorlaw09_powers.f = some r) :
  Calls Tryd.prog 35 #[] w fun e w' => e = .returned (.agg #[.int .u64 (bco r 0), .int .u64 (bco r 1), .int .u64 (bco r 2), .int .u64 (bco r 3), .int .u64 (bco r 4), .int .u64 (bco r 5), .int .u64 (bco r 6), .int .u64 (bco r 7)]) ∧ Below w.heap.size w w' := by
 obtain rfl := Option.some.inj h
 exact attestorlaw09_powers.calls0 w

def attestorlaw09_works.f (k : Nat)  : Option (Bool) := (fold_Next.f k 0 4 5).bind fun bt295 => ((fold_Word.f k 0 3 1 (([1, 64, 22, 50, 96, 33, 75, 47] : List Int)) 9).bind fun bt303 => (if bt295.2.2.2 = 0 then (if (bt295.1 == 0 && (bt295.2.1 == 1 && (bt295.2.2.1 == 6))) = true then ((fold_Rounds.f 13).bind fun t307 => (if t307 = 4 then ((attestorlaw09_powers.f).bind fun t308 => ((fold_At.f k 0 1 t308 2).bind fun t309 => (if t309 = 2 then (if bt303.2 = 0 then ((attestorlaw09_same.f k bt303.1 (([9] : List Int))).bind fun t313 => (some t313)) else (none)) else (none)))) else (none))) else (none)) else (none)))
theorem attestorlaw09_works.mono : ∀ k, LeO (attestorlaw09_works.f k ) (attestorlaw09_works.f (k + 1) ) := by
 intro  k
 unfold attestorlaw09_works.f
 with_reducible repeat' first | apply attestorlaw09_same.mono | apply fold_At.mono | apply fold_Next.mono | apply fold_Word.mono | exact LeO.refl _ | exact LeO.none _ | refine LeO.ite ?_ ?_ | refine LeO.bind ?_ (fun _ => ?_)
set_option maxHeartbeats 8000000 in
set_option maxRecDepth 100000 in
theorem attestorlaw09_works.calls (k : Nat)  (r : Bool) (w : World) (hG : Fld w) (h : attestorlaw09_works.f k  = some r) :
  Calls Tryd.prog 16 #[] w fun e w' => e = .returned (.bool r) ∧ Below w.heap.size w w' := by
 have hu24 := Tryd.underlying24
 have HG := ak hG
 clear hG
 have HB := ak (Below.refl w.heap.size w)
 have H := h
 clear h
 unfold attestorlaw09_works.f at H
 revert H
 refine bd4_ fun t295 t296 t297 t298 A1 H => ?_
 try dsimp only at H
 obtain ⟨y300, hy300⟩ : ∃ y_ : List Int, y_ = (([1, 64, 22, 50, 96, 33, 75, 47] : List Int)) := ⟨_, rfl⟩
 replace H : ((fold_Word.f k 0 3 1 y300 9).bind fun bt303 => (if t298 = 0 then (if (t295 == 0 && (t296 == 1 && (t297 == 6))) = true then ((fold_Rounds.f 13).bind fun t307 => (if t307 = 4 then ((attestorlaw09_powers.f).bind fun t308 => ((fold_At.f k 0 1 t308 2).bind fun t309 => (if t309 = 2 then (if bt303.2 = 0 then ((attestorlaw09_same.f k bt303.1 (([9] : List Int))).bind fun t313 => (some t313)) else (none)) else (none)))) else (none))) else (none)) else (none))) = some r := by first | (rw [hy300]; with_reducible exact H) | (have H2_ := (Option.bind_some _ _).symm.trans H; rw [hy300]; with_reducible exact H2_) | (have H2_ := (Option.bind_some _ _).symm.trans H; with_reducible exact H2_) | with_reducible exact H | (rw [hy300]; exact H) | exact H
 have Ny300 := ak hy300
 clear hy300
 revert H
 refine bd2_ fun t303 t306 A2 H => ?_
 try dsimp only at H
 obtain ⟨c3, H⟩ : (t298 = 0) ∧ _ := it_ H
 have c3b0 := beq_iff_eq.mpr c3
 have c3b1 := bne_eq_false_iff_eq.mpr c3
 clear c3
 obtain ⟨c4, H⟩ : ((t295 == 0 && (t296 == 1 && (t297 == 6))) = true) ∧ _ := it_ H
 have c4b0 : (t295 == 0 && (t296 == 1 && (t297 == 6))) = true := c4
 (try (have c4b1 : decide (t295 = 0 && (t296 == 1 && (t297 == 6))) = true := by simpa using c4))
 (try (have c4b2 : (t295 == 0 && (t296 == 1 && (t297 == 6))) = true := by simpa using c4))
 clear c4
 revert H
 refine bd_ fun t307 A5 H => ?_
 obtain ⟨c6, H⟩ : (t307 = 4) ∧ _ := it_ H
 have c6b0 := beq_iff_eq.mpr c6
 have c6b1 := bne_eq_false_iff_eq.mpr c6
 clear c6
 revert H
 refine bd_ fun t308 A7 H => ?_
 revert H
 refine bd_ fun t309 A8 H => ?_
 obtain ⟨c9, H⟩ : (t309 = 2) ∧ _ := it_ H
 have c9b0 := beq_iff_eq.mpr c9
 have c9b1 := bne_eq_false_iff_eq.mpr c9
 clear c9
 obtain ⟨c10, H⟩ : (t306 = 0) ∧ _ := it_ H
 have c10b0 := beq_iff_eq.mpr c10
 have c10b1 := bne_eq_false_iff_eq.mpr c10
 clear c10
 obtain ⟨y310, hy310⟩ : ∃ y_ : List Int, y_ = (([9] : List Int)) := ⟨_, rfl⟩
 replace H : ((attestorlaw09_same.f k t303 y310).bind fun t313 => (some t313)) = some r := by first | (rw [hy310]; with_reducible exact H) | (have H2_ := (Option.bind_some _ _).symm.trans H; rw [hy310]; with_reducible exact H2_) | (have H2_ := (Option.bind_some _ _).symm.trans H; with_reducible exact H2_) | with_reducible exact H | (rw [hy310]; exact H) | exact H
 have Ny310 := ak hy310
 clear hy310
 revert H
 refine bd_ fun t313 A11 H => ?_
 obtain rfl := Option.some.inj H
 go_enter Tryd.func16, Tryd.ntmps16
 go_wp2_with (first | ((with_reducible refine gate_callee (f := 10) rfl ?_); refine gl_ (some 7) Tryd.func10 #[.agg #[.int .i64 0, .int .i64 4, .int .u64 5]] ?_; (with_reducible refine (fold_Next.calls k 0 4 5 t295 t296 t297 t298 _ ?side1 A1.out).mono ?_); (case side1 => exact fU_ HG.out HB.out); rintro e w12 ⟨rfl, hb⟩; refine ⟨_, rfl, ?_⟩; refine nx1_ (below_step (bU_ HB.out) hb) ?_; clear HB; intro HB; clear hb) | ((with_reducible refine gate_dst (N := 1) rfl ?_); (try (refine gate_guard (by rfl) ?_; dsimp only)); refine bx_ 1 24 #[.int .i64 0, .int .i64 0, .int .u64 0] ?_; intro gb299 hg w13 hbox hb; refine nx4_ (below_step (bU_ HB.out) hb) (hbox) ((hs_ hg (below_size (bU_ HB.out)))) ((hs_ hg (below_size (bU_ HB.out)))) ?_; clear HB; intro HB BK299 GW299 GE299; clear hb hbox hg; have hcz14_0 := bc0_ BK299.out; have hcz14_1 := bc1_ BK299.out; have hcz14_2 := bc2_ BK299.out; have hfz14_0 := blk_frozen BK299.out 0; have hfz14_1 := blk_frozen BK299.out 1; have hfz14_2 := blk_frozen BK299.out 2) | ((with_reducible refine gate_dst (N := 12) rfl ?_); (try (refine gate_guard (by rfl) ?_; dsimp only)); refine R_lit (Kd.int .u64) _ 22 ?hg (N := 12) ?hd (xs := ([1, 64, 22, 50, 96, 33, 75, 47] : List Int)) (inner := [.int .u64 1, .int .u64 64, .int .u64 22, .int .u64 50, .int .u64 96, .int .u64 33, .int .u64 75, .int .u64 47]) (ok := fun _ => True) (okp := fun _ => True) ?hr ?hp (fun _ hk => hk) trivial (Below.refl _ _) (Nat.le_refl _) (by simp) ?_; (case hd => rfl); (case hg => rfl); (case hr => first | (go_simp; done) | (go_simp; rfl)); (case hp => exact (Reps.one (show Kd.M (Kd.int .u64) _ _ _ 1 [.int .u64 1] from rfl) (Reps.one (show Kd.M (Kd.int .u64) _ _ _ 64 [.int .u64 64] from rfl) (Reps.one (show Kd.M (Kd.int .u64) _ _ _ 22 [.int .u64 22] from rfl) (Reps.one (show Kd.M (Kd.int .u64) _ _ _ 50 [.int .u64 50] from rfl) (Reps.one (show Kd.M (Kd.int .u64) _ _ _ 96 [.int .u64 96] from rfl) (Reps.one (show Kd.M (Kd.int .u64) _ _ _ 33 [.int .u64 33] from rfl) (Reps.one (show Kd.M (Kd.int .u64) _ _ _ 75 [.int .u64 75] from rfl) (Reps.one (show Kd.M (Kd.int .u64) _ _ _ 47 [.int .u64 47] from rfl) (Reps.none _ _)))))))))); intro v301 w15 ho16 hb hg_ hnew_; clear hg_ hnew_; (first | rw [← Ny300.out] at ho16 | (simp only [Int.reduceToNat] at ho16; rw [← Ny300.out] at ho16)); refine nx3_ (R_lower ho16 (below_size sU_)) (blk_below (g := gb299) (o := .cells #[.int .i64 t295, .int .i64 t296, .int .u64 t297] 24 (0, 0)) kp_ hb) (below_step sU_ hb) ?_; clear BK299 HB; intro HO302 BK299 HB; clear hb ho16; obtain ⟨Ao17, co17, eo17⟩ := R_slice HO302.out; subst eo17) | ((with_reducible refine gate_callee (f := 20) rfl ?_); refine gl_ (some 13) Tryd.func20 #[.agg #[.int .i64 0, .int .i64 3, .int .u64 1], .slice Ao17 y300.length co17, .int .u64 9] ?_; (with_reducible refine (fold_Word.calls k 0 3 1 _ _ y300 9 t303 t306 _ ?side1 ?side2 ?side3 A2.out).mono ?_); (case side1 => repeat (first | with_reducible exact HG.out | with_reducible exact (Fld.below HG.out HB.out) | exact (Fld.below HG.out sU_) | (with_reducible refine Fld.alloc ?_ _) | (with_reducible refine Fld.drewN ?_ _) | (with_reducible refine Fld.drew ?_))); (case side2 => exact cU_ ((R_reads' HO302.out).2.2)); (case side3 => exact (R_reads' HO302.out).2.1); rintro e w18 ⟨v304, rfl, ho0, hb⟩; refine ⟨_, rfl, ?_⟩; refine nx4_ (R_elder' (rU_ HO302.out) (R_base ho0) hb) (R_lower (R_new' ho0 (R_lt (rU_ HO302.out))) (below_size sU_)) (blk_below (kU_ BK299.out) hb) (below_step sU_ hb) ?_; clear HO302 BK299 HB; intro HO302 HO305 BK299 HB; clear hb ho0; have hcz19_0 := bc0_ BK299.out; have hcz19_1 := bc1_ BK299.out; have hcz19_2 := bc2_ BK299.out; have hfz19_0 := blk_frozen BK299.out 0; have hfz19_1 := blk_frozen BK299.out 1; have hfz19_2 := blk_frozen BK299.out 2) | (go_at_call 12; (with_reducible refine (fold_Rounds.calls 13 t307 _ A5.out).mono ?_); rintro e w20 ⟨rfl, hb⟩; refine nx4_ (R_below (rU_ HO302.out) hb) (R_below (rU_ HO305.out) hb) (blk_below (kU_ BK299.out) hb) (below_step sU_ hb) ?_; clear HO302 HO305 BK299 HB; intro HO302 HO305 BK299 HB; clear hb) | (go_at_call 35; (with_reducible refine (attestorlaw09_powers.calls  t308 _ A7.out).mono ?_); rintro e w21 ⟨rfl, hb⟩; refine nx4_ (R_below (rU_ HO302.out) hb) (R_below (rU_ HO305.out) hb) (blk_below (kU_ BK299.out) hb) (below_step sU_ hb) ?_; clear HO302 HO305 BK299 HB; intro HO302 HO305 BK299 HB; clear hb) | (go_at_call 14; (with_reducible refine (fold_At.calls k 0 1 t308 2 t309 _ ?side1 A8.out).mono ?_); (case side1 => repeat (first | with_reducible exact HG.out | with_reducible exact (Fld.below HG.out HB.out) | exact (Fld.below HG.out sU_) | (with_reducible refine Fld.alloc ?_ _) | (with_reducible refine Fld.drewN ?_ _) | (with_reducible refine Fld.drew ?_))); rintro e w22 ⟨rfl, hb⟩; refine nx4_ (R_below (rU_ HO302.out) hb) (R_below (rU_ HO305.out) hb) (blk_below (kU_ BK299.out) hb) (below_step sU_ hb) ?_; clear HO302 HO305 BK299 HB; intro HO302 HO305 BK299 HB; clear hb) | ((with_reducible refine gate_dst (N := 38) rfl ?_); (try (refine gate_guard (by rfl) ?_; dsimp only)); refine R_lit (Kd.int .u64) _ 22 ?hg (N := 38) ?hd (xs := ([9] : List Int)) (inner := [.int .u64 9]) (ok := fun _ => True) (okp := fun _ => True) ?hr ?hp (fun _ hk => hk) trivial (Below.refl _ _) (Nat.le_refl _) (by simp) ?_; (case hd => rfl); (case hg => rfl); (case hr => first | (go_simp; done) | (go_simp; rfl)); (case hp => exact (Reps.one (show Kd.M (Kd.int .u64) _ _ _ 9 [.int .u64 9] from rfl) (Reps.none _ _))); intro v311 w23 ho24 hb hg_ hnew_; clear hg_ hnew_; (first | rw [← Ny310.out] at ho24 | (simp only [Int.reduceToNat] at ho24; rw [← Ny310.out] at ho24)); refine nx5_ (R_elder' (rU_ HO302.out) (R_base ho24) hb) (R_elder' (rU_ HO305.out) (R_base ho24) hb) (R_lower (R_new' (R_new' ho24 (R_lt (rU_ HO302.out))) (R_lt (rU_ HO305.out))) (below_size sU_)) (blk_below (kU_ BK299.out) hb) (below_step sU_ hb) ?_; clear HO302 HO305 BK299 HB; intro HO302 HO305 HO312 BK299 HB; clear hb ho24; obtain ⟨Ao25, co25, eo25⟩ := R_slice HO305.out; subst eo25; obtain ⟨Ao26, co26, eo26⟩ := R_slice HO312.out; subst eo26) | (go_at_call 21; (with_reducible refine (attestorlaw09_same.calls k _ _ t303 _ _ y310 t313 _ ?side1 ?side2 ?side3 ?side4 A11.out).mono ?_); (case side1 => exact cU_ ((R_reads' HO305.out).2.2)); (case side2 => exact (R_reads' HO305.out).2.1); (case side3 => exact cU_ ((R_reads' HO312.out).2.2)); (case side4 => exact (R_reads' HO312.out).2.1); rintro e w' ⟨rfl, ⟨nd, rfl⟩⟩))
 go_ret
 exact ⟨eW_, sU_⟩

end Go.Proofs.YthinfmfjpaikiaaDoor.Q

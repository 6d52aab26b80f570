-- Written by prx.py (this session's driver of the kit's print) out of the translation. Not trusted: Lean checks it.
import Derived.Test.YtdjjdlkglinlgaaDoorQ0
import Derived.Test.YtdjjdlkglinlgaaDoorQ3
namespace Go.Proofs.YtdjjdlkglinlgaaDoor.Q
open Go.RowKit Go.Proofs.YtdjjdlkglinlgaaDoorW.PrintWords Go.Proofs.YtdjjdlkglinlgaaDoorW.PrintLast Go.Proofs.YtdjjdlkglinlgaaDoorW.PrintMore
attribute [local go_sem] max2_int min2_int max_two min_two max_three min_three max_four min_four   -- for this text's walks alone
set_option linter.unusedVariables false
set_option linter.unusedSimpArgs false

/-! ### attestorlaw04_sized: function 22, by hand -/
theorem results_tmp4 {fn : Func} {t u v x : Tmp} (h : fn.results = #[.tmp t, .tmp u, .tmp v, .tmp x]) (tmps : Array Value) (P : Program) (w : World) :
  (results fn tmps).run P w = .ok (.tuple #[tmps.getD t undef, tmps.getD u undef, tmps.getD v undef, tmps.getD x undef]) w := by
 simp [results, h]
set_option maxHeartbeats 4000000 in
set_option maxRecDepth 100000 in
theorem sized_0 (a0 a1 a2 : Int) (A3 : Option Addr) (c3 : Nat) (l3 : List Int) (n t : Int) (w : World) (hG : Fld w) (hr3 : Kd.C (Kd.int .u64) w A3 l3.length l3) (hc3 : l3.length ≤ c3) (h0 : wrap64 (Int.tmod a0 4) = 0) (h2 : n = Int.tmod (wrap64 (Int.tmod a1 10)) (5 + 1)) (h3 : 0 ≤ n) (h4 : n ≤ 9) (ht : field_Reduce.f 0 a2 = some t) :
  Calls Tryd.prog 22 #[.int .u8 a0, .int .u8 a1, .int .u64 a2, .slice A3 l3.length c3] w fun e w' => ∃ v0_ : Value, e = .returned (.tuple #[.int .i64 0, .int .i64 n, .int .u64 (if t = 0 then 1 else a2), v0_]) ∧ Kd.R (Kd.int .u64) 22 w' w.heap.size (fun _ => True) v0_ (cpyAt (List.replicate (2 ^ n.toNat) 0) 0 l3) ∧ Below w.heap.size w w' := by
 have HG := ak hG
 have HB := ak (Below.refl w.heap.size w)
 have h2' : Int.tmod (wrap64 (Int.tmod a1 10)) (6) = n := h2.symm
 clear h2
 have hM : wrap64 (2 ^ n.toNat) = ((2 ^ n.toNat : Nat) : Int) ∧ 2 ^ n.toNat ≤ 512 := by
  have q : n.toNat ≤ 9 := by omega
  generalize n.toNat = j at q
  rcases (by omega : j = 0 ∨ j = 1 ∨ j = 2 ∨ j = 3 ∨ j = 4 ∨ j = 5 ∨ j = 6 ∨ j = 7 ∨ j = 8 ∨ j = 9) with rfl | rfl | rfl | rfl | rfl | rfl | rfl | rfl | rfl | rfl <;> exact ⟨by unfold wrap64; omega, by decide⟩
 obtain ⟨M, hMe⟩ : ∃ M, 2 ^ n.toNat = M := ⟨_, rfl⟩
 rw [hMe] at hM ⊢
 have hidx : ∀ w : World, (Instr.index 58 (Value.agg #[Value.int .i64 5, Value.int .i64 8, Value.int .i64 9, Value.int .i64 9]) (Value.int .i64 0)).run Tryd.prog w = .ok (.int .i64 5) w := fun _ => rfl
 have hn0 : 0 ≤ (wrap64 (Int.tmod a1 10)).tmod 6 := by rw [h2']; exact h3
 go_enter Tryd.func22, Tryd.ntmps22
 by_cases c1 : t = 0
 ·have c1b : (t == 0) = true := by simpa using c1
  rw [if_pos c1]
  go_wp2_with (first | ((with_reducible refine gate_callee (f := 23) rfl ?_); refine gl_ (some 28) Tryd.func23 #[.int .i64 (wrap64 (Int.tmod a0 4)), .int .u64 a2] ?_; (with_reducible refine (field_Reduce.calls (wrap64 (Int.tmod a0 4)) a2 t _ ?side1 (by rw [h0]; exact ht)).mono ?_); (case side1 => exact fU_ HG.out HB.out); rintro e w1 ⟨rfl, hb⟩; refine ⟨_, rfl, ?_⟩; refine nx1_ (below_step (bU_ HB.out) hb) ?_; clear HB; intro HB; clear hb) | ((with_reducible refine gate_dst (N := 33) rfl ?_); refine hold_ ?_))
  (try rw [h2'])
  (try rw [hM.1])
  refine ⟨?_⟩
  refine Kd.R_make (Kd.int .u64) _ 22 rfl (N := 33) rfl 23 _ _ rfl (M : Int) ?hx ?hy Tryd.underlying23 (.int .u64 0) 8 info22 rfl (by decide) (by omega) 0 (ok := fun _ => True) (okp := fun _ => True) rfl (fun _ hk => hk) trivial (by omega) (Nat.le_trans (Nat.mul_le_mul_right _ (show (M : Int).toNat ≤ 35184372088832 by omega)) (by omega)) (Below.refl _ _) (Nat.le_refl _) ?_
  (case hx => rfl)
  (case hy => rfl)
  intro v0 w2 ho hb _ _
  have HO := ak (Kd.R_lower ho (below_size (bU_ HB.out)))
  refine nx1_ (below_step (bU_ HB.out) hb) ?_
  clear HB ho hb
  intro HB
  rw [Int.toNat_natCast] at HO
  obtain ⟨y0, hy0⟩ : ∃ y : List Int, y = List.replicate M (0 : Int) := ⟨_, rfl⟩
  rw [← hy0] at HO
  have Ny := ak hy0
  clear hy0
  obtain ⟨Ao, co, eo⟩ := Kd.R_slice HO.out
  subst eo
  go_wp2_with ((with_reducible refine gate_builtin (b := .copy) (xs := #[.tmp 34, .tmp 35]) rfl ?_); refine copy_own_ .u64 (w0 := w) w.heap.size rfl (.tmp 34) (.tmp 35) 23 23 22 rfl Tryd.underlying23 (show (Tryd.prog.info? 22).map (·.size) = some 1 by kernel_rfl) (.slice Ao y0.length co) y0 l3 _ _ _ (fun _ => True) rfl rfl ?aO ?aR (fun _ _ h => h) ?aF ?aB ?aS ?_; (case aR => exact cU_ (Kd.C_below hr3 HB.out)); (case aB => exact (bU_ HB.out)); (case aF => exact (fun _ _ => trivial)); (case aO => exact (rU_ HO.out)); (case aS => exact (below_size (bU_ HB.out))); intro w9 ho hb hg hat; refine nx2_ (hb) (ho) ?_; clear HB HO; intro HB HO; clear ho hb hg hat)
  (try simp only [Exit.inBlock, Exit.then])
  refine bodyPost_ret (results_tmp4 rfl _ _ _) rfl ?_
  exact ⟨_, by first | rfl | (simp [*]; done), by rw [← Ny.out]; exact rU_ HO.out, bU_ HB.out⟩
 ·have c1b : (t == 0) = false := by simpa using c1
  rw [if_neg c1]
  go_wp2_with (first | ((with_reducible refine gate_callee (f := 23) rfl ?_); refine gl_ (some 28) Tryd.func23 #[.int .i64 (wrap64 (Int.tmod a0 4)), .int .u64 a2] ?_; (with_reducible refine (field_Reduce.calls (wrap64 (Int.tmod a0 4)) a2 t _ ?side1 (by rw [h0]; exact ht)).mono ?_); (case side1 => exact fU_ HG.out HB.out); rintro e w1 ⟨rfl, hb⟩; refine ⟨_, rfl, ?_⟩; refine nx1_ (below_step (bU_ HB.out) hb) ?_; clear HB; intro HB; clear hb) | ((with_reducible refine gate_dst (N := 33) rfl ?_); refine hold_ ?_))
  (try rw [h2'])
  (try rw [hM.1])
  refine ⟨?_⟩
  refine Kd.R_make (Kd.int .u64) _ 22 rfl (N := 33) rfl 23 _ _ rfl (M : Int) ?hx ?hy Tryd.underlying23 (.int .u64 0) 8 info22 rfl (by decide) (by omega) 0 (ok := fun _ => True) (okp := fun _ => True) rfl (fun _ hk => hk) trivial (by omega) (Nat.le_trans (Nat.mul_le_mul_right _ (show (M : Int).toNat ≤ 35184372088832 by omega)) (by omega)) (Below.refl _ _) (Nat.le_refl _) ?_
  (case hx => rfl)
  (case hy => rfl)
  intro v0 w2 ho hb _ _
  have HO := ak (Kd.R_lower ho (below_size (bU_ HB.out)))
  refine nx1_ (below_step (bU_ HB.out) hb) ?_
  clear HB ho hb
  intro HB
  rw [Int.toNat_natCast] at HO
  obtain ⟨y0, hy0⟩ : ∃ y : List Int, y = List.replicate M (0 : Int) := ⟨_, rfl⟩
  rw [← hy0] at HO
  have Ny := ak hy0
  clear hy0
  obtain ⟨Ao, co, eo⟩ := Kd.R_slice HO.out
  subst eo
  go_wp2_with ((with_reducible refine gate_builtin (b := .copy) (xs := #[.tmp 34, .tmp 35]) rfl ?_); refine copy_own_ .u64 (w0 := w) w.heap.size rfl (.tmp 34) (.tmp 35) 23 23 22 rfl Tryd.underlying23 (show (Tryd.prog.info? 22).map (·.size) = some 1 by kernel_rfl) (.slice Ao y0.length co) y0 l3 _ _ _ (fun _ => True) rfl rfl ?aO ?aR (fun _ _ h => h) ?aF ?aB ?aS ?_; (case aR => exact cU_ (Kd.C_below hr3 HB.out)); (case aB => exact (bU_ HB.out)); (case aF => exact (fun _ _ => trivial)); (case aO => exact (rU_ HO.out)); (case aS => exact (below_size (bU_ HB.out))); intro w9 ho hb hg hat; refine nx2_ (hb) (ho) ?_; clear HB HO; intro HB HO; clear ho hb hg hat)
  (try simp only [Exit.inBlock, Exit.then])
  refine bodyPost_ret (results_tmp4 rfl _ _ _) rfl ?_
  exact ⟨_, by first | rfl | (simp [*]; done), by rw [← Ny.out]; exact rU_ HO.out, bU_ HB.out⟩
set_option maxHeartbeats 4000000 in
set_option maxRecDepth 100000 in
theorem sized_1 (a0 a1 a2 : Int) (A3 : Option Addr) (c3 : Nat) (l3 : List Int) (n t : Int) (w : World) (hG : Fld w) (hr3 : Kd.C (Kd.int .u64) w A3 l3.length l3) (hc3 : l3.length ≤ c3) (h0 : wrap64 (Int.tmod a0 4) = 1) (h2 : n = Int.tmod (wrap64 (Int.tmod a1 10)) (8 + 1)) (h3 : 0 ≤ n) (h4 : n ≤ 9) (ht : field_Reduce.f 1 a2 = some t) :
  Calls Tryd.prog 22 #[.int .u8 a0, .int .u8 a1, .int .u64 a2, .slice A3 l3.length c3] w fun e w' => ∃ v0_ : Value, e = .returned (.tuple #[.int .i64 1, .int .i64 n, .int .u64 (if t = 0 then 1 else a2), v0_]) ∧ Kd.R (Kd.int .u64) 22 w' w.heap.size (fun _ => True) v0_ (cpyAt (List.replicate (2 ^ n.toNat) 0) 0 l3) ∧ Below w.heap.size w w' := by
 have HG := ak hG
 have HB := ak (Below.refl w.heap.size w)
 have h2' : Int.tmod (wrap64 (Int.tmod a1 10)) (9) = n := h2.symm
 clear h2
 have hM : wrap64 (2 ^ n.toNat) = ((2 ^ n.toNat : Nat) : Int) ∧ 2 ^ n.toNat ≤ 512 := by
  have q : n.toNat ≤ 9 := by omega
  generalize n.toNat = j at q
  rcases (by omega : j = 0 ∨ j = 1 ∨ j = 2 ∨ j = 3 ∨ j = 4 ∨ j = 5 ∨ j = 6 ∨ j = 7 ∨ j = 8 ∨ j = 9) with rfl | rfl | rfl | rfl | rfl | rfl | rfl | rfl | rfl | rfl <;> exact ⟨by unfold wrap64; omega, by decide⟩
 obtain ⟨M, hMe⟩ : ∃ M, 2 ^ n.toNat = M := ⟨_, rfl⟩
 rw [hMe] at hM ⊢
 have hidx : ∀ w : World, (Instr.index 58 (Value.agg #[Value.int .i64 5, Value.int .i64 8, Value.int .i64 9, Value.int .i64 9]) (Value.int .i64 1)).run Tryd.prog w = .ok (.int .i64 8) w := fun _ => rfl
 have hn0 : 0 ≤ (wrap64 (Int.tmod a1 10)).tmod 9 := by rw [h2']; exact h3
 go_enter Tryd.func22, Tryd.ntmps22
 by_cases c1 : t = 0
 ·have c1b : (t == 0) = true := by simpa using c1
  rw [if_pos c1]
  go_wp2_with (first | ((with_reducible refine gate_callee (f := 23) rfl ?_); refine gl_ (some 28) Tryd.func23 #[.int .i64 (wrap64 (Int.tmod a0 4)), .int .u64 a2] ?_; (with_reducible refine (field_Reduce.calls (wrap64 (Int.tmod a0 4)) a2 t _ ?side1 (by rw [h0]; exact ht)).mono ?_); (case side1 => exact fU_ HG.out HB.out); rintro e w1 ⟨rfl, hb⟩; refine ⟨_, rfl, ?_⟩; refine nx1_ (below_step (bU_ HB.out) hb) ?_; clear HB; intro HB; clear hb) | ((with_reducible refine gate_dst (N := 33) rfl ?_); refine hold_ ?_))
  (try rw [h2'])
  (try rw [hM.1])
  refine ⟨?_⟩
  refine Kd.R_make (Kd.int .u64) _ 22 rfl (N := 33) rfl 23 _ _ rfl (M : Int) ?hx ?hy Tryd.underlying23 (.int .u64 0) 8 info22 rfl (by decide) (by omega) 0 (ok := fun _ => True) (okp := fun _ => True) rfl (fun _ hk => hk) trivial (by omega) (Nat.le_trans (Nat.mul_le_mul_right _ (show (M : Int).toNat ≤ 35184372088832 by omega)) (by omega)) (Below.refl _ _) (Nat.le_refl _) ?_
  (case hx => rfl)
  (case hy => rfl)
  intro v0 w2 ho hb _ _
  have HO := ak (Kd.R_lower ho (below_size (bU_ HB.out)))
  refine nx1_ (below_step (bU_ HB.out) hb) ?_
  clear HB ho hb
  intro HB
  rw [Int.toNat_natCast] at HO
  obtain ⟨y0, hy0⟩ : ∃ y : List Int, y = List.replicate M (0 : Int) := ⟨_, rfl⟩
  rw [← hy0] at HO
  have Ny := ak hy0
  clear hy0
  obtain ⟨Ao, co, eo⟩ := Kd.R_slice HO.out
  subst eo
  go_wp2_with ((with_reducible refine gate_builtin (b := .copy) (xs := #[.tmp 34, .tmp 35]) rfl ?_); refine copy_own_ .u64 (w0 := w) w.heap.size rfl (.tmp 34) (.tmp 35) 23 23 22 rfl Tryd.underlying23 (show (Tryd.prog.info? 22).map (·.size) = some 1 by kernel_rfl) (.slice Ao y0.length co) y0 l3 _ _ _ (fun _ => True) rfl rfl ?aO ?aR (fun _ _ h => h) ?aF ?aB ?aS ?_; (case aR => exact cU_ (Kd.C_below hr3 HB.out)); (case aB => exact (bU_ HB.out)); (case aF => exact (fun _ _ => trivial)); (case aO => exact (rU_ HO.out)); (case aS => exact (below_size (bU_ HB.out))); intro w9 ho hb hg hat; refine nx2_ (hb) (ho) ?_; clear HB HO; intro HB HO; clear ho hb hg hat)
  (try simp only [Exit.inBlock, Exit.then])
  refine bodyPost_ret (results_tmp4 rfl _ _ _) rfl ?_
  exact ⟨_, by first | rfl | (simp [*]; done), by rw [← Ny.out]; exact rU_ HO.out, bU_ HB.out⟩
 ·have c1b : (t == 0) = false := by simpa using c1
  rw [if_neg c1]
  go_wp2_with (first | ((with_reducible refine gate_callee (f := 23) rfl ?_); refine gl_ (some 28) Tryd.func23 #[.int .i64 (wrap64 (Int.tmod a0 4)), .int .u64 a2] ?_; (with_reducible refine (field_Reduce.calls (wrap64 (Int.tmod a0 4)) a2 t _ ?side1 (by rw [h0]; exact ht)).mono ?_); (case side1 => exact fU_ HG.out HB.out); rintro e w1 ⟨rfl, hb⟩; refine ⟨_, rfl, ?_⟩; refine nx1_ (below_step (bU_ HB.out) hb) ?_; clear HB; intro HB; clear hb) | ((with_reducible refine gate_dst (N := 33) rfl ?_); refine hold_ ?_))
  (try rw [h2'])
  (try rw [hM.1])
  refine ⟨?_⟩
  refine Kd.R_make (Kd.int .u64) _ 22 rfl (N := 33) rfl 23 _ _ rfl (M : Int) ?hx ?hy Tryd.underlying23 (.int .u64 0) 8 info22 rfl (by decide) (by omega) 0 (ok := fun _ => True) (okp := fun _ => True) rfl (fun _ hk => hk) trivial (by omega) (Nat.le_trans (Nat.mul_le_mul_right _ (show (M : Int).toNat ≤ 35184372088832 by omega)) (by omega)) (Below.refl _ _) (Nat.le_refl _) ?_
  (case hx => rfl)
  (case hy => rfl)
  intro v0 w2 ho hb _ _
  have HO := ak (Kd.R_lower ho (below_size (bU_ HB.out)))
  refine nx1_ (below_step (bU_ HB.out) hb) ?_
  clear HB ho hb
  intro HB
  rw [Int.toNat_natCast] at HO
  obtain ⟨y0, hy0⟩ : ∃ y : List Int, y = List.replicate M (0 : Int) := ⟨_, rfl⟩
  rw [← hy0] at HO
  have Ny := ak hy0
  clear hy0
  obtain ⟨Ao, co, eo⟩ := Kd.R_slice HO.out
  subst eo
  go_wp2_with ((with_reducible refine gate_builtin (b := .copy) (xs := #[.tmp 34, .tmp 35]) rfl ?_); refine copy_own_ .u64 (w0 := w) w.heap.size rfl (.tmp 34) (.tmp 35) 23 23 22 rfl Tryd.underlying23 (show (Tryd.prog.info? 22).map (·.size) = some 1 by kernel_rfl) (.slice Ao y0.length co) y0 l3 _ _ _ (fun _ => True) rfl rfl ?aO ?aR (fun _ _ h => h) ?aF ?aB ?aS ?_; (case aR => exact cU_ (Kd.C_below hr3 HB.out)); (case aB => exact (bU_ HB.out)); (case aF => exact (fun _ _ => trivial)); (case aO => exact (rU_ HO.out)); (case aS => exact (below_size (bU_ HB.out))); intro w9 ho hb hg hat; refine nx2_ (hb) (ho) ?_; clear HB HO; intro HB HO; clear ho hb hg hat)
  (try simp only [Exit.inBlock, Exit.then])
  refine bodyPost_ret (results_tmp4 rfl _ _ _) rfl ?_
  exact ⟨_, by first | rfl | (simp [*]; done), by rw [← Ny.out]; exact rU_ HO.out, bU_ HB.out⟩
set_option maxHeartbeats 4000000 in
set_option maxRecDepth 100000 in
theorem sized_2 (a0 a1 a2 : Int) (A3 : Option Addr) (c3 : Nat) (l3 : List Int) (n t : Int) (w : World) (hG : Fld w) (hr3 : Kd.C (Kd.int .u64) w A3 l3.length l3) (hc3 : l3.length ≤ c3) (h0 : wrap64 (Int.tmod a0 4) = 2) (h2 : n = Int.tmod (wrap64 (Int.tmod a1 10)) (9 + 1)) (h3 : 0 ≤ n) (h4 : n ≤ 9) (ht : field_Reduce.f 2 a2 = some t) :
  Calls Tryd.prog 22 #[.int .u8 a0, .int .u8 a1, .int .u64 a2, .slice A3 l3.length c3] w fun e w' => ∃ v0_ : Value, e = .returned (.tuple #[.int .i64 2, .int .i64 n, .int .u64 (if t = 0 then 1 else a2), v0_]) ∧ Kd.R (Kd.int .u64) 22 w' w.heap.size (fun _ => True) v0_ (cpyAt (List.replicate (2 ^ n.toNat) 0) 0 l3) ∧ Below w.heap.size w w' := by
 have HG := ak hG
 have HB := ak (Below.refl w.heap.size w)
 have h2' : Int.tmod (wrap64 (Int.tmod a1 10)) (10) = n := h2.symm
 clear h2
 have hM : wrap64 (2 ^ n.toNat) = ((2 ^ n.toNat : Nat) : Int) ∧ 2 ^ n.toNat ≤ 512 := by
  have q : n.toNat ≤ 9 := by omega
  generalize n.toNat = j at q
  rcases (by omega : j = 0 ∨ j = 1 ∨ j = 2 ∨ j = 3 ∨ j = 4 ∨ j = 5 ∨ j = 6 ∨ j = 7 ∨ j = 8 ∨ j = 9) with rfl | rfl | rfl | rfl | rfl | rfl | rfl | rfl | rfl | rfl <;> exact ⟨by unfold wrap64; omega, by decide⟩
 obtain ⟨M, hMe⟩ : ∃ M, 2 ^ n.toNat = M := ⟨_, rfl⟩
 rw [hMe] at hM ⊢
 have hidx : ∀ w : World, (Instr.index 58 (Value.agg #[Value.int .i64 5, Value.int .i64 8, Value.int .i64 9, Value.int .i64 9]) (Value.int .i64 2)).run Tryd.prog w = .ok (.int .i64 9) w := fun _ => rfl
 have hn0 : 0 ≤ (wrap64 (Int.tmod a1 10)).tmod 10 := by rw [h2']; exact h3
 go_enter Tryd.func22, Tryd.ntmps22
 by_cases c1 : t = 0
 ·have c1b : (t == 0) = true := by simpa using c1
  rw [if_pos c1]
  go_wp2_with (first | ((with_reducible refine gate_callee (f := 23) rfl ?_); refine gl_ (some 28) Tryd.func23 #[.int .i64 (wrap64 (Int.tmod a0 4)), .int .u64 a2] ?_; (with_reducible refine (field_Reduce.calls (wrap64 (Int.tmod a0 4)) a2 t _ ?side1 (by rw [h0]; exact ht)).mono ?_); (case side1 => exact fU_ HG.out HB.out); rintro e w1 ⟨rfl, hb⟩; refine ⟨_, rfl, ?_⟩; refine nx1_ (below_step (bU_ HB.out) hb) ?_; clear HB; intro HB; clear hb) | ((with_reducible refine gate_dst (N := 33) rfl ?_); refine hold_ ?_))
  (try rw [h2'])
  (try rw [hM.1])
  refine ⟨?_⟩
  refine Kd.R_make (Kd.int .u64) _ 22 rfl (N := 33) rfl 23 _ _ rfl (M : Int) ?hx ?hy Tryd.underlying23 (.int .u64 0) 8 info22 rfl (by decide) (by omega) 0 (ok := fun _ => True) (okp := fun _ => True) rfl (fun _ hk => hk) trivial (by omega) (Nat.le_trans (Nat.mul_le_mul_right _ (show (M : Int).toNat ≤ 35184372088832 by omega)) (by omega)) (Below.refl _ _) (Nat.le_refl _) ?_
  (case hx => rfl)
  (case hy => rfl)
  intro v0 w2 ho hb _ _
  have HO := ak (Kd.R_lower ho (below_size (bU_ HB.out)))
  refine nx1_ (below_step (bU_ HB.out) hb) ?_
  clear HB ho hb
  intro HB
  rw [Int.toNat_natCast] at HO
  obtain ⟨y0, hy0⟩ : ∃ y : List Int, y = List.replicate M (0 : Int) := ⟨_, rfl⟩
  rw [← hy0] at HO
  have Ny := ak hy0
  clear hy0
  obtain ⟨Ao, co, eo⟩ := Kd.R_slice HO.out
  subst eo
  go_wp2_with ((with_reducible refine gate_builtin (b := .copy) (xs := #[.tmp 34, .tmp 35]) rfl ?_); refine copy_own_ .u64 (w0 := w) w.heap.size rfl (.tmp 34) (.tmp 35) 23 23 22 rfl Tryd.underlying23 (show (Tryd.prog.info? 22).map (·.size) = some 1 by kernel_rfl) (.slice Ao y0.length co) y0 l3 _ _ _ (fun _ => True) rfl rfl ?aO ?aR (fun _ _ h => h) ?aF ?aB ?aS ?_; (case aR => exact cU_ (Kd.C_below hr3 HB.out)); (case aB => exact (bU_ HB.out)); (case aF => exact (fun _ _ => trivial)); (case aO => exact (rU_ HO.out)); (case aS => exact (below_size (bU_ HB.out))); intro w9 ho hb hg hat; refine nx2_ (hb) (ho) ?_; clear HB HO; intro HB HO; clear ho hb hg hat)
  (try simp only [Exit.inBlock, Exit.then])
  refine bodyPost_ret (results_tmp4 rfl _ _ _) rfl ?_
  exact ⟨_, by first | rfl | (simp [*]; done), by rw [← Ny.out]; exact rU_ HO.out, bU_ HB.out⟩
 ·have c1b : (t == 0) = false := by simpa using c1
  rw [if_neg c1]
  go_wp2_with (first | ((with_reducible refine gate_callee (f := 23) rfl ?_); refine gl_ (some 28) Tryd.func23 #[.int .i64 (wrap64 (Int.tmod a0 4)), .int .u64 a2] ?_; (with_reducible refine (field_Reduce.calls (wrap64 (Int.tmod a0 4)) a2 t _ ?side1 (by rw [h0]; exact ht)).mono ?_); (case side1 => exact fU_ HG.out HB.out); rintro e w1 ⟨rfl, hb⟩; refine ⟨_, rfl, ?_⟩; refine nx1_ (below_step (bU_ HB.out) hb) ?_; clear HB; intro HB; clear hb) | ((with_reducible refine gate_dst (N := 33) rfl ?_); refine hold_ ?_))
  (try rw [h2'])
  (try rw [hM.1])
  refine ⟨?_⟩
  refine Kd.R_make (Kd.int .u64) _ 22 rfl (N := 33) rfl 23 _ _ rfl (M : Int) ?hx ?hy Tryd.underlying23 (.int .u64 0) 8 info22 rfl (by decide) (by omega) 0 (ok := fun _ => True) (okp := fun _ => True) rfl (fun _ hk => hk) trivial (by omega) (Nat.le_trans (Nat.mul_le_mul_right _ (show (M : Int).toNat ≤ 35184372088832 by omega)) (by omega)) (Below.refl _ _) (Nat.le_refl _) ?_
  (case hx => rfl)
  (case hy => rfl)
  intro v0 w2 ho hb _ _
  have HO := ak (Kd.R_lower ho (below_size (bU_ HB.out)))
  refine nx1_ (below_step (bU_ HB.out) hb) ?_
  clear HB ho hb
  intro HB
  rw [Int.toNat_natCast] at HO
  obtain ⟨y0, hy0⟩ : ∃ y : List Int, y = List.replicate M (0 : Int) := ⟨_, rfl⟩
  rw [← hy0] at HO
  have Ny := ak hy0
  clear hy0
  obtain ⟨Ao, co, eo⟩ := Kd.R_slice HO.out
  subst eo
  go_wp2_with ((with_reducible refine gate_builtin (b := .copy) (xs := #[.tmp 34, .tmp 35]) rfl ?_); refine copy_own_ .u64 (w0 := w) w.heap.size rfl (.tmp 34) (.tmp 35) 23 23 22 rfl Tryd.underlying23 (show (Tryd.prog.info? 22).map (·.size) = some 1 by kernel_rfl) (.slice Ao y0.length co) y0 l3 _ _ _ (fun _ => True) rfl rfl ?aO ?aR (fun _ _ h => h) ?aF ?aB ?aS ?_; (case aR => exact cU_ (Kd.C_below hr3 HB.out)); (case aB => exact (bU_ HB.out)); (case aF => exact (fun _ _ => trivial)); (case aO => exact (rU_ HO.out)); (case aS => exact (below_size (bU_ HB.out))); intro w9 ho hb hg hat; refine nx2_ (hb) (ho) ?_; clear HB HO; intro HB HO; clear ho hb hg hat)
  (try simp only [Exit.inBlock, Exit.then])
  refine bodyPost_ret (results_tmp4 rfl _ _ _) rfl ?_
  exact ⟨_, by first | rfl | (simp [*]; done), by rw [← Ny.out]; exact rU_ HO.out, bU_ HB.out⟩
set_option maxHeartbeats 4000000 in
set_option maxRecDepth 100000 in
theorem sized_3 (a0 a1 a2 : Int) (A3 : Option Addr) (c3 : Nat) (l3 : List Int) (n t : Int) (w : World) (hG : Fld w) (hr3 : Kd.C (Kd.int .u64) w A3 l3.length l3) (hc3 : l3.length ≤ c3) (h0 : wrap64 (Int.tmod a0 4) = 3) (h2 : n = Int.tmod (wrap64 (Int.tmod a1 10)) (9 + 1)) (h3 : 0 ≤ n) (h4 : n ≤ 9) (ht : field_Reduce.f 3 a2 = some t) :
  Calls Tryd.prog 22 #[.int .u8 a0, .int .u8 a1, .int .u64 a2, .slice A3 l3.length c3] w fun e w' => ∃ v0_ : Value, e = .returned (.tuple #[.int .i64 3, .int .i64 n, .int .u64 (if t = 0 then 1 else a2), v0_]) ∧ Kd.R (Kd.int .u64) 22 w' w.heap.size (fun _ => True) v0_ (cpyAt (List.replicate (2 ^ n.toNat) 0) 0 l3) ∧ Below w.heap.size w w' := by
 have HG := ak hG
 have HB := ak (Below.refl w.heap.size w)
 have h2' : Int.tmod (wrap64 (Int.tmod a1 10)) (10) = n := h2.symm
 clear h2
 have hM : wrap64 (2 ^ n.toNat) = ((2 ^ n.toNat : Nat) : Int) ∧ 2 ^ n.toNat ≤ 512 := by
  have q : n.toNat ≤ 9 := by omega
  generalize n.toNat = j at q
  rcases (by omega : j = 0 ∨ j = 1 ∨ j = 2 ∨ j = 3 ∨ j = 4 ∨ j = 5 ∨ j = 6 ∨ j = 7 ∨ j = 8 ∨ j = 9) with rfl | rfl | rfl | rfl | rfl | rfl | rfl | rfl | rfl | rfl <;> exact ⟨by unfold wrap64; omega, by decide⟩
 obtain ⟨M, hMe⟩ : ∃ M, 2 ^ n.toNat = M := ⟨_, rfl⟩
 rw [hMe] at hM ⊢
 have hidx : ∀ w : World, (Instr.index 58 (Value.agg #[Value.int .i64 5, Value.int .i64 8, Value.int .i64 9, Value.int .i64 9]) (Value.int .i64 3)).run Tryd.prog w = .ok (.int .i64 9) w := fun _ => rfl
 have hn0 : 0 ≤ (wrap64 (Int.tmod a1 10)).tmod 10 := by rw [h2']; exact h3
 go_enter Tryd.func22, Tryd.ntmps22
 by_cases c1 : t = 0
 ·have c1b : (t == 0) = true := by simpa using c1
  rw [if_pos c1]
  go_wp2_with (first | ((with_reducible refine gate_callee (f := 23) rfl ?_); refine gl_ (some 28) Tryd.func23 #[.int .i64 (wrap64 (Int.tmod a0 4)), .int .u64 a2] ?_; (with_reducible refine (field_Reduce.calls (wrap64 (Int.tmod a0 4)) a2 t _ ?side1 (by rw [h0]; exact ht)).mono ?_); (case side1 => exact fU_ HG.out HB.out); rintro e w1 ⟨rfl, hb⟩; refine ⟨_, rfl, ?_⟩; refine nx1_ (below_step (bU_ HB.out) hb) ?_; clear HB; intro HB; clear hb) | ((with_reducible refine gate_dst (N := 33) rfl ?_); refine hold_ ?_))
  (try rw [h2'])
  (try rw [hM.1])
  refine ⟨?_⟩
  refine Kd.R_make (Kd.int .u64) _ 22 rfl (N := 33) rfl 23 _ _ rfl (M : Int) ?hx ?hy Tryd.underlying23 (.int .u64 0) 8 info22 rfl (by decide) (by omega) 0 (ok := fun _ => True) (okp := fun _ => True) rfl (fun _ hk => hk) trivial (by omega) (Nat.le_trans (Nat.mul_le_mul_right _ (show (M : Int).toNat ≤ 35184372088832 by omega)) (by omega)) (Below.refl _ _) (Nat.le_refl _) ?_
  (case hx => rfl)
  (case hy => rfl)
  intro v0 w2 ho hb _ _
  have HO := ak (Kd.R_lower ho (below_size (bU_ HB.out)))
  refine nx1_ (below_step (bU_ HB.out) hb) ?_
  clear HB ho hb
  intro HB
  rw [Int.toNat_natCast] at HO
  obtain ⟨y0, hy0⟩ : ∃ y : List Int, y = List.replicate M (0 : Int) := ⟨_, rfl⟩
  rw [← hy0] at HO
  have Ny := ak hy0
  clear hy0
  obtain ⟨Ao, co, eo⟩ := Kd.R_slice HO.out
  subst eo
  go_wp2_with ((with_reducible refine gate_builtin (b := .copy) (xs := #[.tmp 34, .tmp 35]) rfl ?_); refine copy_own_ .u64 (w0 := w) w.heap.size rfl (.tmp 34) (.tmp 35) 23 23 22 rfl Tryd.underlying23 (show (Tryd.prog.info? 22).map (·.size) = some 1 by kernel_rfl) (.slice Ao y0.length co) y0 l3 _ _ _ (fun _ => True) rfl rfl ?aO ?aR (fun _ _ h => h) ?aF ?aB ?aS ?_; (case aR => exact cU_ (Kd.C_below hr3 HB.out)); (case aB => exact (bU_ HB.out)); (case aF => exact (fun _ _ => trivial)); (case aO => exact (rU_ HO.out)); (case aS => exact (below_size (bU_ HB.out))); intro w9 ho hb hg hat; refine nx2_ (hb) (ho) ?_; clear HB HO; intro HB HO; clear ho hb hg hat)
  (try simp only [Exit.inBlock, Exit.then])
  refine bodyPost_ret (results_tmp4 rfl _ _ _) rfl ?_
  exact ⟨_, by first | rfl | (simp [*]; done), by rw [← Ny.out]; exact rU_ HO.out, bU_ HB.out⟩
 ·have c1b : (t == 0) = false := by simpa using c1
  rw [if_neg c1]
  go_wp2_with (first | ((with_reducible refine gate_callee (f := 23) rfl ?_); refine gl_ (some 28) Tryd.func23 #[.int .i64 (wrap64 (Int.tmod a0 4)), .int .u64 a2] ?_; (with_reducible refine (field_Reduce.calls (wrap64 (Int.tmod a0 4)) a2 t _ ?side1 (by rw [h0]; exact ht)).mono ?_); (case side1 => exact fU_ HG.out HB.out); rintro e w1 ⟨rfl, hb⟩; refine ⟨_, rfl, ?_⟩; refine nx1_ (below_step (bU_ HB.out) hb) ?_; clear HB; intro HB; clear hb) | ((with_reducible refine gate_dst (N := 33) rfl ?_); refine hold_ ?_))
  (try rw [h2'])
  (try rw [hM.1])
  refine ⟨?_⟩
  refine Kd.R_make (Kd.int .u64) _ 22 rfl (N := 33) rfl 23 _ _ rfl (M : Int) ?hx ?hy Tryd.underlying23 (.int .u64 0) 8 info22 rfl (by decide) (by omega) 0 (ok := fun _ => True) (okp := fun _ => True) rfl (fun _ hk => hk) trivial (by omega) (Nat.le_trans (Nat.mul_le_mul_right _ (show (M : Int).toNat ≤ 35184372088832 by omega)) (by omega)) (Below.refl _ _) (Nat.le_refl _) ?_
  (case hx => rfl)
  (case hy => rfl)
  intro v0 w2 ho hb _ _
  have HO := ak (Kd.R_lower ho (below_size (bU_ HB.out)))
  refine nx1_ (below_step (bU_ HB.out) hb) ?_
  clear HB ho hb
  intro HB
  rw [Int.toNat_natCast] at HO
  obtain ⟨y0, hy0⟩ : ∃ y : List Int, y = List.replicate M (0 : Int) := ⟨_, rfl⟩
  rw [← hy0] at HO
  have Ny := ak hy0
  clear hy0
  obtain ⟨Ao, co, eo⟩ := Kd.R_slice HO.out
  subst eo
  go_wp2_with ((with_reducible refine gate_builtin (b := .copy) (xs := #[.tmp 34, .tmp 35]) rfl ?_); refine copy_own_ .u64 (w0 := w) w.heap.size rfl (.tmp 34) (.tmp 35) 23 23 22 rfl Tryd.underlying23 (show (Tryd.prog.info? 22).map (·.size) = some 1 by kernel_rfl) (.slice Ao y0.length co) y0 l3 _ _ _ (fun _ => True) rfl rfl ?aO ?aR (fun _ _ h => h) ?aF ?aB ?aS ?_; (case aR => exact cU_ (Kd.C_below hr3 HB.out)); (case aB => exact (bU_ HB.out)); (case aF => exact (fun _ _ => trivial)); (case aO => exact (rU_ HO.out)); (case aS => exact (below_size (bU_ HB.out))); intro w9 ho hb hg hat; refine nx2_ (hb) (ho) ?_; clear HB HO; intro HB HO; clear ho hb hg hat)
  (try simp only [Exit.inBlock, Exit.then])
  refine bodyPost_ret (results_tmp4 rfl _ _ _) rfl ?_
  exact ⟨_, by first | rfl | (simp [*]; done), by rw [← Ny.out]; exact rU_ HO.out, bU_ HB.out⟩
def sized_r (c e a1 a2 : Int) (l3 : List Int) : Option (Int × Int × Int × List Int) := if 0 ≤ Int.tmod (wrap64 (Int.tmod a1 10)) (e + 1) ∧ Int.tmod (wrap64 (Int.tmod a1 10)) (e + 1) ≤ 9 then (field_Reduce.f c a2).bind fun t => some (c, Int.tmod (wrap64 (Int.tmod a1 10)) (e + 1), (if t = 0 then 1 else a2), cpyAt (List.replicate (2 ^ (Int.tmod (wrap64 (Int.tmod a1 10)) (e + 1)).toNat) 0) 0 l3) else none
def attestorlaw04_sized.f (a0 a1 a2 : Int) (l3 : List Int) : Option (Int × Int × Int × List Int) := if wrap64 (Int.tmod a0 4) = 0 then sized_r 0 5 a1 a2 l3 else if wrap64 (Int.tmod a0 4) = 1 then sized_r 1 8 a1 a2 l3 else if wrap64 (Int.tmod a0 4) = 2 then sized_r 2 9 a1 a2 l3 else if wrap64 (Int.tmod a0 4) = 3 then sized_r 3 9 a1 a2 l3 else none
set_option maxHeartbeats 4000000 in
theorem attestorlaw04_sized.calls (a0 a1 a2 : Int) (A3 : Option Addr) (c3 : Nat) (l3 : List Int) (r1 r2 r3 : Int) (r4 : List Int) (w : World) (hG : Fld w) (hr3 : Kd.C (Kd.int .u64) w A3 l3.length l3) (hc3 : l3.length ≤ c3) (h : attestorlaw04_sized.f a0 a1 a2 l3 = some (r1, r2, r3, r4)) :
  Calls Tryd.prog 22 #[.int .u8 a0, .int .u8 a1, .int .u64 a2, .slice A3 l3.length c3] w fun e w' => ∃ v0_ : Value, e = .returned (.tuple #[.int .i64 r1, .int .i64 r2, .int .u64 r3, v0_]) ∧ Kd.R (Kd.int .u64) 22 w' w.heap.size (fun _ => True) v0_ r4 ∧ Below w.heap.size w w' := by
 unfold attestorlaw04_sized.f at h
 by_cases hx0 : wrap64 (Int.tmod a0 4) = 0
 ·rw [if_pos hx0] at h
  unfold sized_r at h
  by_cases d : 0 ≤ Int.tmod (wrap64 (Int.tmod a1 10)) (5 + 1) ∧ Int.tmod (wrap64 (Int.tmod a1 10)) (5 + 1) ≤ 9
  ·rw [if_pos d] at h
   obtain ⟨t, ht, h⟩ := Option.bind_eq_some_iff.mp h
   simp only [Option.some.injEq, Prod.mk.injEq] at h
   obtain ⟨rfl, rfl, rfl, rfl⟩ := h
   exact sized_0 a0 a1 a2 A3 c3 l3 _ t w hG hr3 hc3 hx0 rfl d.1 d.2 ht
  ·rw [if_neg d] at h
   simp at h
 rw [if_neg hx0] at h
 by_cases hx1 : wrap64 (Int.tmod a0 4) = 1
 ·rw [if_pos hx1] at h
  unfold sized_r at h
  by_cases d : 0 ≤ Int.tmod (wrap64 (Int.tmod a1 10)) (8 + 1) ∧ Int.tmod (wrap64 (Int.tmod a1 10)) (8 + 1) ≤ 9
  ·rw [if_pos d] at h
   obtain ⟨t, ht, h⟩ := Option.bind_eq_some_iff.mp h
   simp only [Option.some.injEq, Prod.mk.injEq] at h
   obtain ⟨rfl, rfl, rfl, rfl⟩ := h
   exact sized_1 a0 a1 a2 A3 c3 l3 _ t w hG hr3 hc3 hx1 rfl d.1 d.2 ht
  ·rw [if_neg d] at h
   simp at h
 rw [if_neg hx1] at h
 by_cases hx2 : wrap64 (Int.tmod a0 4) = 2
 ·rw [if_pos hx2] at h
  unfold sized_r at h
  by_cases d : 0 ≤ Int.tmod (wrap64 (Int.tmod a1 10)) (9 + 1) ∧ Int.tmod (wrap64 (Int.tmod a1 10)) (9 + 1) ≤ 9
  ·rw [if_pos d] at h
   obtain ⟨t, ht, h⟩ := Option.bind_eq_some_iff.mp h
   simp only [Option.some.injEq, Prod.mk.injEq] at h
   obtain ⟨rfl, rfl, rfl, rfl⟩ := h
   exact sized_2 a0 a1 a2 A3 c3 l3 _ t w hG hr3 hc3 hx2 rfl d.1 d.2 ht
  ·rw [if_neg d] at h
   simp at h
 rw [if_neg hx2] at h
 by_cases hx3 : wrap64 (Int.tmod a0 4) = 3
 ·rw [if_pos hx3] at h
  unfold sized_r at h
  by_cases d : 0 ≤ Int.tmod (wrap64 (Int.tmod a1 10)) (9 + 1) ∧ Int.tmod (wrap64 (Int.tmod a1 10)) (9 + 1) ≤ 9
  ·rw [if_pos d] at h
   obtain ⟨t, ht, h⟩ := Option.bind_eq_some_iff.mp h
   simp only [Option.some.injEq, Prod.mk.injEq] at h
   obtain ⟨rfl, rfl, rfl, rfl⟩ := h
   exact sized_3 a0 a1 a2 A3 c3 l3 _ t w hG hr3 hc3 hx3 rfl d.1 d.2 ht
  ·rw [if_neg d] at h
   simp at h
 rw [if_neg hx3] at h
 simp at h

end Go.Proofs.YtdjjdlkglinlgaaDoor.Q

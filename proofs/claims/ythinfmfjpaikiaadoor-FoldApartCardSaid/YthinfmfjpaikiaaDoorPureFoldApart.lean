/- Of two fibres with different local polynomials at most 7 challenges make the folds equal: for every input. -/
import Derived.Test.YthinfmfjpaikiaaDoorSpecs
import Derived.Test.YthinfmfjpaikiaaDoorQ9
namespace Go.Proofs.YthinfmfjpaikiaaDoor.Pure
open Go.RowKit Go.Proofs.YthinfmfjpaikiaaDoor.Q Go.Proofs.YthinfmfjpaikiaaDoor.Num Go.Proofs.YthinfmfjpaikiaaDoor.Pol Go.Proofs.YthinfmfjpaikiaaDoorW.PrintWords Go.Proofs.YthinfmfjpaikiaaDoorW.PrintLast Go.Proofs.YthinfmfjpaikiaaDoorW.PrintMore

theorem eq8 {A B : List Int} (hA : A.length = 8) (hB : B.length = 8) : ((bco A 0) == (bco B 0) && ((bco A 1) == (bco B 1) && ((bco A 2) == (bco B 2) && ((bco A 3) == (bco B 3) && ((bco A 4) == (bco B 4) && ((bco A 5) == (bco B 5) && ((bco A 6) == (bco B 6) && ((bco A 7) == (bco B 7))))))))) = true ↔ A = B := by
  match A, hA, B, hB with
  | [a0, a1, a2, a3, a4, a5, a6, a7], _, [b0, b1, b2, b3, b4, b5, b6, b7], _ => simp [bco]
theorem apart_nat {p : Nat} : ∀ L : List Nat, L.Pairwise (· < ·) → (∀ i ∈ L, i < p) → Apart p (L.map fun (i : Nat) => (i : Int))
  | [], _, _ => trivial
  | a :: L, h, hb => by
    rw [List.pairwise_cons] at h
    refine ⟨fun y hy c => ?_, apart_nat L h.2 fun i hi => hb i (List.mem_cons_of_mem _ hi)⟩
    obtain ⟨i, hi, rfl⟩ := List.mem_map.1 hy
    have h1 := h.1 i hi
    have h2 := hb i (List.mem_cons_of_mem _ hi)
    have c : Cg p (a : Int) (i : Int) := c
    have := c.uniq (by omega) (by omega) (by omega) (by omega)
    omega
def hl (p : Nat) (A B : List Int) (z : Nat) : List Nat := (List.range z).filter fun c => decide (ev A (c : Int) % p = ev B (c : Int) % p)
theorem hl_le (p : Nat) (A B : List Int) (z : Nat) : (hl p A B z).length ≤ z := by
  have := List.length_filter_le (fun c : Nat => decide (ev A (c : Int) % p = ev B (c : Int) % p)) (List.range z)
  rw [List.length_range] at this
  exact this
theorem hl_yes {p : Nat} {A B : List Int} {z : Nat} (h : ev A (z : Int) % p = ev B (z : Int) % p) : (hl p A B (z + 1)).length = (hl p A B z).length + 1 := by
  simp [hl, List.range_succ, h]
theorem hl_no {p : Nat} {A B : List Int} {z : Nat} (h : ¬ ev A (z : Int) % p = ev B (z : Int) % p) : (hl p A B (z + 1)).length = (hl p A B z).length := by
  simp [hl, List.range_succ, h]
theorem hl_all (p : Nat) (A : List Int) : ∀ z, (hl p A A z).length = z
  | 0 => rfl
  | z + 1 => by rw [hl_yes rfl, hl_all p A z]
section good
variable {f : Int} {p : Nat} (h : FP f p)
include h
theorem loc_rg {k : Nat} {s : Int} (l : List Int) (i j : Nat) : 0 ≤ co (loc f p k s l i) j ∧ co (loc f p k s l i) j < p := by
  by_cases hj : j < 8
  · unfold loc; rw [co_cofs hj]; exact h.mod _
  · rw [co_over (by rw [loc_length]; omega)]; have := h.one; omega
theorem hl_seven {A B : List Int} (hA : A.length = 8) (hB : B.length = 8) (rA : ∀ j, 0 ≤ co A j ∧ co A j < p) (rB : ∀ j, 0 ≤ co B j ∧ co B j < p) (hne : A ≠ B) : (hl p A B p).length ≤ 7 := by
  refine Classical.byContradiction fun hn => hne ?_
  have hp : Apart p ((hl p A B p).map fun (i : Nat) => (i : Int)) := apart_nat _ (List.pairwise_lt_range.filter _) fun i hi => List.mem_range.1 (List.mem_filter.1 hi).1
  have he := interp_uniq h.pr hp (a := A) (b := B) ((Deg.len p A).mono (by rw [List.length_map]; omega)) ((Deg.len p B).mono (by rw [List.length_map]; omega)) fun x hx => by
    obtain ⟨i, hi, rfl⟩ := List.mem_map.1 hx
    exact Cg.of_mod (by simpa using (List.mem_filter.1 hi).2)
  exact ext_co (by rw [hA, hB]) fun j _ => (he j).uniq (rA j).1 (rA j).2 (rB j).1 (rB j).2
theorem fa_l0 {x y : Int} (hx : 0 ≤ x) (hy : 0 ≤ y) {v w : List Int} (hv : v.length = 8) (hw : w.length = 8) (uv : UL v) (uw : UL w) (x0 : x % p ≠ 0) (y0 : y % p ≠ 0) (hp : p < 1000) {A B : List Int} (eA : A = loc f p 3 (x % p) v 0) (eB : B = loc f p 3 (y % p) w 0) : ∀ (d z : Nat), z + d = p →
    Ev (fun K => attestorlaw09_FoldApart.l0 K x y f p ((hl p A B z).length : Int) (z : Int) (bco v 0) (bco v 1) (bco v 2) (bco v 3) (bco v 4) (bco v 5) (bco v 6) (bco v 7) (bco w 0) (bco w 1) (bco w 2) (bco w 3) (bco w 4) (bco w 5) (bco w 6) (bco w 7) (bco A 0) (bco A 1) (bco A 2) (bco A 3) (bco A 4) (bco A 5) (bco A 6) (bco A 7) (bco B 0) (bco B 1) (bco B 2) (bco B 3) (bco B 4) (bco B 5) (bco B 6) (bco B 7)) true := by
  have lA : A.length = 8 := by rw [eA, loc_length]
  have lB : B.length = 8 := by rw [eB, loc_length]
  have rA : ∀ j, 0 ≤ co A j ∧ co A j < p := eA ▸ loc_rg h v 0
  have rB : ∀ j, 0 ≤ co B j ∧ co B j < p := eB ▸ loc_rg h w 0
  have ev8 : [bco v 0, bco v 1, bco v 2, bco v 3, bco v 4, bco v 5, bco v 6, bco v 7] = v := pad8_self hv
  have ew8 : [bco w 0, bco w 1, bco w 2, bco w 3, bco w 4, bco w 5, bco w 6, bco w 7] = w := pad8_self hw
  intro d
  induction d with
  | zero =>
    intro z hz
    obtain rfl : z = p := by omega
    obtain ⟨K1, k1⟩ := Ev.get s_works
    refine Ev.mks K1 fun K hK => ?_
    rw [attestorlaw09_FoldApart.l0, if_neg (by omega)]
    by_cases e : A = B
    · rw [if_pos ((eq8 lA lB).2 e), if_pos (by rw [e, hl_all, w64 (by omega) (by omega)]), k1 K hK, Option.bind_some]
    · have h7 := hl_seven h lA lB rA rB e
      rw [if_neg (fun c => e ((eq8 lA lB).1 c)), if_neg (fun c => e ((eq8 lA lB).1 c)), if_pos (by omega), k1 K hK, Option.bind_some]
  | succ d ih =>
    intro z hz
    have hle := hl_le p A B z
    have e1 : IntKind.u64.wrap ((z : Int) + 1) = ((z + 1 : Nat) : Int) := by rw [wu64 (by omega) (by omega)]; rfl
    have a1 := s_At h hx (c := (z : Int)) (by omega) hv uv x0
    have a2 := s_At h hy (c := (z : Int)) (by omega) hw uw y0
    rw [← eA] at a1
    rw [← eB] at a2
    obtain ⟨K1, k1⟩ := Ev.get a1
    obtain ⟨K2, k2⟩ := Ev.get a2
    obtain ⟨K3, k3⟩ := Ev.get (ih (z + 1) (by omega))
    refine Ev.mk (K1 + K2 + K3 + 1) fun K hK => ?_
    obtain ⟨K, rfl⟩ : ∃ K', K = K' + 1 := ⟨K - 1, by omega⟩
    rw [attestorlaw09_FoldApart.l0, if_pos (by omega), ev8, ew8, fold_At.f, pad8_self hv, k1 K (by omega), Option.bind_some, fold_At.f, pad8_self hw, k2 K (by omega), Option.bind_some, e1]
    by_cases e : ev A (z : Int) % p = ev B (z : Int) % p
    · rw [if_pos e, w64_succ (by omega), ← hl_yes e]
      exact k3 K (by omega)
    · rw [if_neg e, ← hl_no e]
      exact k3 K (by omega)
theorem fa_j2 {x y : Int} (hx : 0 ≤ x) (hy : 0 ≤ y) {v w : List Int} (hv : v.length = 8) (hw : w.length = 8) (uv : UL v) (uw : UL w) (x0 : x % p ≠ 0) (y0 : y % p ≠ 0) (hp : p < 1000) :
    Ev (fun K => attestorlaw09_FoldApart.j2 K x y f p (bco v 0) (bco v 1) (bco v 2) (bco v 3) (bco v 4) (bco v 5) (bco v 6) (bco v 7) (bco w 0) (bco w 1) (bco w 2) (bco w 3) (bco w 4) (bco w 5) (bco w 6) (bco w 7)) true := by
  have ev8 : [bco v 0, bco v 1, bco v 2, bco v 3, bco v 4, bco v 5, bco v 6, bco v 7] = v := pad8_self hv
  have ew8 : [bco w 0, bco w 1, bco w 2, bco w 3, bco w 4, bco w 5, bco w 6, bco w 7] = w := pad8_self hw
  obtain ⟨K1, k1⟩ := Ev.get ((dm3 h x0).Local (Nat.le_refl _) (l := v) hv uv (i := 0) (by decide))
  obtain ⟨K2, k2⟩ := Ev.get ((dm3 h y0).Local (Nat.le_refl _) (l := w) hw uw (i := 0) (by decide))
  obtain ⟨K3, k3⟩ := Ev.get (fa_l0 h hx hy hv hw uv uw x0 y0 hp rfl rfl p 0 (by omega))
  refine Ev.mk (K1 + K2 + K3 + 1) fun K hK => ?_
  obtain ⟨K, rfl⟩ : ∃ K', K = K' + 1 := ⟨K - 1, by omega⟩
  rw [attestorlaw09_FoldApart.j2, s_Reduce h hx, Option.bind_some, ev8, ew8, show code_Local.f K f 3 (x % p) v 0 = some _ from k1 K (by omega), Option.bind_some, s_Reduce h hy, Option.bind_some, show code_Local.f K f 3 (y % p) w 0 = some _ from k2 K (by omega), Option.bind_some]
  exact k3 K (by omega)
theorem fa_unit (x : Int) : (if x % p = 0 then (1 : Int) else x) % p ≠ 0 := by
  by_cases c : x % p = 0
  · rw [if_pos c, Int.emod_eq_of_lt (by omega) h.one]; omega
  · rw [if_neg c]; exact c
end good
theorem FoldApart (x0 x1 x2 : Int) (x3 x4 : List Int) (w0 : (Lit.int .u8 x0).wf = true) (w1 : (Lit.int .u64 x1).wf = true) (w2 : (Lit.int .u64 x2).wf = true) (l3 : x3.length = 8) (w3 : ∀ x ∈ x3, (Lit.int .u64 x).wf = true) (l4 : x4.length = 8) (w4 : ∀ x ∈ x4, (Lit.int .u64 x).wf = true) :
    ∃ k, attestorlaw09_FoldApart.f k x0 x1 x2 x3 x4 = some true := by
  simp [Lit.wf, IntKind.min, IntKind.max, IntKind.bits, IntKind.signed] at w0
  have u1 := (U.of_wf w1).1
  have u2 := (U.of_wf w2).1
  have ef : wrap64 (Int.tmod x0 2) = x0 % 2 := by rw [Int.tmod_eq_emod_of_nonneg (by omega), w64 (by omega) (by omega)]
  obtain ⟨f, hf⟩ : ∃ f, f = x0 % 2 := ⟨_, rfl⟩
  obtain ⟨p, h⟩ := fp_of (f := f) (by omega) (by omega)
  have hpp : (p : Int) = if f = 1 then 257 else 97 := by
    have e := h.eq
    rcases (show f = 0 ∨ f = 1 by omega) with q | q <;> rw [q] at e ⊢ <;> rw [← e] <;> decide
  have hp : p < 1000 := by split at hpp <;> omega
  have uX := fa_unit h x1
  have uY := fa_unit h x2
  obtain ⟨X, hX⟩ : ∃ X, X = if x1 % p = 0 then (1 : Int) else x1 := ⟨_, rfl⟩
  obtain ⟨Y, hY⟩ : ∃ Y, Y = if x2 % p = 0 then (1 : Int) else x2 := ⟨_, rfl⟩
  rw [← hX] at uX
  rw [← hY] at uY
  have nX : 0 ≤ X := by rw [hX]; split <;> omega
  have nY : 0 ≤ Y := by rw [hY]; split <;> omega
  obtain ⟨K1, k1⟩ := Ev.get (fa_j2 h nX nY l3 l4 (UL.of_wf w3) (UL.of_wf w4) uX uY hp)
  refine ⟨K1 + 1 + 1, ?_⟩
  have j1 : ∀ K, K1 ≤ K → attestorlaw09_FoldApart.j1 (K + 1) X Y f (bco x3 0) (bco x3 1) (bco x3 2) (bco x3 3) (bco x3 4) (bco x3 5) (bco x3 6) (bco x3 7) (bco x4 0) (bco x4 1) (bco x4 2) (bco x4 3) (bco x4 4) (bco x4 5) (bco x4 6) (bco x4 7) = some true := fun K hK => by
    have := k1 K hK
    rw [hpp] at this
    rw [attestorlaw09_FoldApart.j1]
    by_cases q : f = 1
    · rw [if_pos q] at this ⊢; exact this
    · rw [if_neg q] at this ⊢; exact this
  have j0 : attestorlaw09_FoldApart.j0 (K1 + 1 + 1) X x2 f (bco x3 0) (bco x3 1) (bco x3 2) (bco x3 3) (bco x3 4) (bco x3 5) (bco x3 6) (bco x3 7) (bco x4 0) (bco x4 1) (bco x4 2) (bco x4 3) (bco x4 4) (bco x4 5) (bco x4 6) (bco x4 7) = some true := by
    rw [attestorlaw09_FoldApart.j0, s_Reduce h u2, Option.bind_some]
    have := j1 K1 (Nat.le_refl _)
    by_cases q : x2 % p = 0
    · rw [if_pos q] at hY ⊢; rw [hY] at this; exact this
    · rw [if_neg q] at hY ⊢; rw [hY] at this; exact this
  rw [attestorlaw09_FoldApart.f, ef, ← hf, s_Reduce h u1, Option.bind_some]
  by_cases q : x1 % p = 0
  · rw [if_pos q] at hX ⊢; rw [hX] at j0; exact j0
  · rw [if_neg q] at hX ⊢; rw [hX] at j0; exact j0
end Go.Proofs.YthinfmfjpaikiaaDoor.Pure

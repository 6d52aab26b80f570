/- What a row's list gives the walks: the package-level table of the four fields, cell for cell; and a world that holds it, for the witness. -/
import Derived.Test.YtbjeemlbjkmhiaaDoorRows
import Derived.Test.YtbjeemlbjkmhiaaDoorFld
import Derived.ProofKit
import Derived.LaidMore
import Derived.OpenShut
import Derived.ChangeSame
import Derived.MakeChecks
namespace Go.Proofs.YtbjeemlbjkmhiaaDoor
open Go.ChangeShapes Go.WideShapes Go.ChangeAt Go.RowKit

theorem gFields : Tryd.prog.globalNamed "attestor/field.fields" = some 0 := by kernel_rfl
theorem tFields : (Tryd.prog.globals[0]?).map (·.type) = some 130 := by kernel_rfl

section
variable {H : Type} {enc : TypeId × Value → H} {W : World} {base : Nat} {sp : Nat → Bool} {held : Bool}
theorem int_at {t : TypeId} {k : IntKind} (ht : Tryd.prog.underlying t = some (.int k)) {fuel : Nat} {c : Value} {z : Int} {y : DataW H × List MemPlace}
    (h : DataW.trod enc Tryd.prog W base sp held fuel t [c] = some y) (hz : y.1 = .lit (.int k z)) : c = .int k z := by
  obtain ⟨z', h1, h2, _⟩ := DataW.trod_int ht h
  subst h2
  simp only [DataW.lit.injEq, Lit.int.injEq, true_and] at hz
  subst hz
  simpa using h1
theorem list_at {t e : TypeId} (ht : Tryd.prog.underlying t = some (.slice e)) {fuel : Nat} {c : Value} {y : DataW H × List MemPlace}
    (h : DataW.trod enc Tryd.prog W base sp held fuel t [c] = some y) : ∃ a n cp, c = .slice a n cp := by
  cases fuel with
  | zero => simp [DataW.trod] at h
  | succ m =>
    unfold DataW.trod at h
    rw [ht] at h
    cases c <;> simp at h
    exact ⟨_, _, _, rfl⟩

set_option maxRecDepth 100000 in
theorem params_at {fuel : Nat} {cs : List Value} {y : DataW H × List MemPlace} {p g t x : Int} {l : DataW H} (hl : cs.length = 5)
    (h : DataW.trod enc Tryd.prog W base sp held fuel 113 cs = some y) (hy : y.1 = .agg [.lit (.int .u64 p), .lit (.int .u64 g), .lit (.int .i64 t), .lit (.int .i64 x), l]) :
    cs[0]? = some (.int .u64 p) ∧ cs[1]? = some (.int .u64 g) ∧ cs[2]? = some (.int .i64 t) ∧ cs[3]? = some (.int .i64 x) ∧ ∃ a n c, cs[4]? = some (.slice a n c) := by
  obtain ⟨c0, c1, c2, c3, c4, rfl⟩ : ∃ c0 c1 c2 c3 c4, cs = [c0, c1, c2, c3, c4] := by
    match cs, hl with
    | [c0, c1, c2, c3, c4], _ => exact ⟨_, _, _, _, _, rfl⟩
  obtain ⟨xs, n, _, rfl, _, hlen, hf⟩ := DataW.trod_struct Tryd.underlying113 h
  obtain ⟨y0, y1, y2, y3, y4, rfl⟩ : ∃ y0 y1 y2 y3 y4, xs = [y0, y1, y2, y3, y4] := by
    match xs, hlen with
    | [y0, y1, y2, y3, y4], _ => exact ⟨_, _, _, _, _, rfl⟩
  simp only [List.map_cons, List.map_nil, DataW.agg.injEq, List.cons.injEq, and_true] at hy
  obtain ⟨e0, e1, e2, e3, _⟩ := hy
  have h0 := hf 0 _ rfl
  have h1 := hf 1 _ rfl
  have h2 := hf 2 _ rfl
  have h3 := hf 3 _ rfl
  have h4 := hf 4 _ rfl
  simp only [List.getElem?_cons_zero, List.getElem?_cons_succ] at h0 h1 h2 h3 h4
  refine ⟨?_, ?_, ?_, ?_, ?_⟩
  · simpa using int_at Tryd.underlying48 h0 e0
  · simpa using int_at Tryd.underlying48 h1 e1
  · simpa using int_at Tryd.underlying3 h2 e2
  · simpa using int_at Tryd.underlying3 h3 e3
  · obtain ⟨a, n, c, e⟩ := list_at Tryd.underlying35 h4
    exact ⟨a, n, c, by simpa using e⟩
end


theorem fld_of_laid {W : World} (h : laidMetH Tryd.prog [("attestor/field.fields", Rows.laid_attestor_field_fields)] W) : Fld W := by
  rw [MakeChecks.laidMetH_plain _ _ _ (by kernel_rfl)] at h
  obtain ⟨ps, ⟨g0, t0, cs0, f0, p0, q0, hg0, ht0, hv0, hd0, _, _⟩, _⟩ := h
  obtain rfl := Option.some.inj (gFields.symm.trans hg0)
  obtain rfl := Option.some.inj (tFields.symm.trans ht0)
  obtain ⟨xs, m, _, hx, hlen, hn, hel⟩ := DataW.trod_array Tryd.underlying130 hd0
  have cA : Tryd.prog.cellsOf 130 = 20 := by kernel_rfl
  have cP : Tryd.prog.cellsOf 113 = 5 := by kernel_rfl
  rw [cA] at hlen
  rw [cP] at hel
  obtain ⟨x0, x1, x2, x3, rfl⟩ : ∃ x0 x1 x2 x3, xs = [x0, x1, x2, x3] := by
    match xs, hn with
    | [x0, x1, x2, x3], _ => exact ⟨_, _, _, _, rfl⟩
  simp only [Rows.laid_attestor_field_fields, List.map_cons, List.map_nil, Prod.mk.injEq, DataW.agg.injEq, List.cons.injEq, and_true] at hx
  obtain ⟨⟨e0, e1, e2, e3⟩, _⟩ := hx
  have hc : ∀ i j, i < 4 → j < 5 → ((cs0.toList.drop (i * 5)).take 5)[j]? = W.cell? ⟨0, i * 5 + j, none⟩ := by
    intro i j hi hj
    rw [World.var?_cell gFields hv0 (i * 5 + j), List.getElem?_take, if_pos hj, List.getElem?_drop]
    simp
  have hl : ∀ i, i < 4 → ((cs0.toList.drop (i * 5)).take 5).length = 5 := by
    intro i hi
    rw [List.length_take, List.length_drop, hlen]
    omega
  have r0 := params_at (hl 0 (by decide)) (hel 0 (by decide)) e0.symm
  have r1 := params_at (hl 1 (by decide)) (hel 1 (by decide)) e1.symm
  have r2 := params_at (hl 2 (by decide)) (hel 2 (by decide)) e2.symm
  have r3 := params_at (hl 3 (by decide)) (hel 3 (by decide)) e3.symm
  rw [hc 0 0 (by decide) (by decide), hc 0 1 (by decide) (by decide), hc 0 2 (by decide) (by decide), hc 0 3 (by decide) (by decide), hc 0 4 (by decide) (by decide)] at r0
  rw [hc 1 0 (by decide) (by decide), hc 1 1 (by decide) (by decide), hc 1 2 (by decide) (by decide), hc 1 3 (by decide) (by decide), hc 1 4 (by decide) (by decide)] at r1
  rw [hc 2 0 (by decide) (by decide), hc 2 1 (by decide) (by decide), hc 2 2 (by decide) (by decide), hc 2 3 (by decide) (by decide), hc 2 4 (by decide) (by decide)] at r2
  rw [hc 3 0 (by decide) (by decide), hc 3 1 (by decide) (by decide), hc 3 2 (by decide) (by decide), hc 3 3 (by decide) (by decide), hc 3 4 (by decide) (by decide)] at r3
  obtain ⟨a0, a1, a2, a3, a4⟩ := r0
  obtain ⟨b0, b1, b2, b3, b4⟩ := r1
  obtain ⟨d0, d1, d2, d3, d4⟩ := r2
  obtain ⟨f0, f1, f2, f3, f4⟩ := r3
  exact ⟨a0, a1, a2, a3, a4, b0, b1, b2, b3, b4, d0, d1, d2, d3, d4, f0, f1, f2, f3, f4, World.block_lt_of_cell? _ _ a0⟩
end Go.Proofs.YtbjeemlbjkmhiaaDoor

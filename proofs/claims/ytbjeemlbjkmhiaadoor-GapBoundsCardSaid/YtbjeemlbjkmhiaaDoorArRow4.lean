/- A parameter that is an array of four whole numbers: opened. -/
import Derived.Test.YtbjeemlbjkmhiaaDoorArr
import Derived.OpenShut
import Derived.WideShapes

namespace Go.Proofs.YtbjeemlbjkmhiaaDoor
open Go.RowKit Go.WideShapes
theorem open_arr4 {H : Type} {enc : TypeId × Value → H} {P : Program} {W : World} {base : Nat} {t e : TypeId} (hu : P.underlying t = some (.array 4 e)) (he : P.underlying e = some (.int .i64)) (kt : P.cellsOf t = 4) (ke : P.cellsOf e = 1)
    {v : Value} (hv : Value.okWide P W .any base t v) {d : DataW H} {p : List MemPlace} (h : DataW.Trod enc P W 0 (fun _ => true) true t v d p) :
    ∃ l : List Int, l.length = 4 ∧ v = .agg #[.int .i64 (bco l 0), .int .i64 (bco l 1), .int .i64 (bco l 2), .int .i64 (bco l 3)] ∧ ∀ x ∈ l, (Lit.int .i64 x).wf = true := by
  simp only [Value.okWide, hu] at hv
  obtain ⟨cs, rfl, hz, _⟩ := hv
  rw [kt] at hz
  obtain ⟨c0, c1, c2, c3, rfl⟩ : ∃ c0 c1 c2 c3, cs = #[c0, c1, c2, c3] := by
    obtain ⟨l⟩ := cs
    match l, hz with
    | [c0, c1, c2, c3], _ => exact ⟨c0, c1, c2, c3, rfl⟩
  obtain ⟨fuel, hf⟩ := h
  obtain ⟨xs, n, -, hx, hcl, hxl, hff⟩ := DataW.trod_array hu hf
  obtain ⟨g0, g1, g2, g3, rfl⟩ : ∃ g0 g1 g2 g3, xs = [g0, g1, g2, g3] := by
    match xs, hxl with
    | [g0, g1, g2, g3], _ => exact ⟨g0, g1, g2, g3, rfl⟩
  have e0 : DataW.trod enc P W 0 (fun _ => true) true n e [c0] = some g0 := by simpa [Value.cells, ke] using hff 0 (by omega)
  have e1 : DataW.trod enc P W 0 (fun _ => true) true n e [c1] = some g1 := by simpa [Value.cells, ke] using hff 1 (by omega)
  have e2 : DataW.trod enc P W 0 (fun _ => true) true n e [c2] = some g2 := by simpa [Value.cells, ke] using hff 2 (by omega)
  have e3 : DataW.trod enc P W 0 (fun _ => true) true n e [c3] = some g3 := by simpa [Value.cells, ke] using hff 3 (by omega)
  obtain ⟨b0, hq0, -, u0⟩ := DataW.trod_int he e0
  obtain ⟨b1, hq1, -, u1⟩ := DataW.trod_int he e1
  obtain ⟨b2, hq2, -, u2⟩ := DataW.trod_int he e2
  obtain ⟨b3, hq3, -, u3⟩ := DataW.trod_int he e3
  obtain rfl : c0 = .int .i64 b0 := by simpa using hq0
  obtain rfl : c1 = .int .i64 b1 := by simpa using hq1
  obtain rfl : c2 = .int .i64 b2 := by simpa using hq2
  obtain rfl : c3 = .int .i64 b3 := by simpa using hq3
  refine ⟨[b0, b1, b2, b3], rfl, rfl, fun x hx => ?_⟩
  simp only [List.mem_cons, List.not_mem_nil, or_false] at hx
  rcases hx with rfl | rfl | rfl | rfl <;> assumption
end Go.Proofs.YtbjeemlbjkmhiaaDoor

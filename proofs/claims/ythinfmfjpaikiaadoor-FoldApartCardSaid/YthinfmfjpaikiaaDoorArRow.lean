/- A parameter that is an array of eight numbers: opened. -/
import Derived.Test.YthinfmfjpaikiaaDoorArr
import Derived.OpenShut
import Derived.WideShapes

namespace Go.Proofs.YthinfmfjpaikiaaDoor
open Go.RowKit Go.WideShapes
theorem open_arr8 {H : Type} {enc : TypeId × Value → H} {P : Program} {W : World} {base : Nat} {t e : TypeId} (hu : P.underlying t = some (.array 8 e)) (he : P.underlying e = some (.int .u64)) (kt : P.cellsOf t = 8) (ke : P.cellsOf e = 1)
    {v : Value} (hv : Value.okWide P W .any base t v) {d : DataW H} {p : List MemPlace} (h : DataW.Trod enc P W 0 (fun _ => true) true t v d p) :
    ∃ l : List Int, l.length = 8 ∧ v = .agg #[.int .u64 (bco l 0), .int .u64 (bco l 1), .int .u64 (bco l 2), .int .u64 (bco l 3), .int .u64 (bco l 4), .int .u64 (bco l 5), .int .u64 (bco l 6), .int .u64 (bco l 7)] ∧ ∀ x ∈ l, (Lit.int .u64 x).wf = true := by
  simp only [Value.okWide, hu] at hv
  obtain ⟨cs, rfl, hz, _⟩ := hv
  rw [kt] at hz
  obtain ⟨c0, c1, c2, c3, c4, c5, c6, c7, rfl⟩ : ∃ c0 c1 c2 c3 c4 c5 c6 c7, cs = #[c0, c1, c2, c3, c4, c5, c6, c7] := by
    obtain ⟨l⟩ := cs
    match l, hz with
    | [c0, c1, c2, c3, c4, c5, c6, c7], _ => exact ⟨c0, c1, c2, c3, c4, c5, c6, c7, rfl⟩
  obtain ⟨fuel, hf⟩ := h
  obtain ⟨xs, n, -, hx, hcl, hxl, hff⟩ := DataW.trod_array hu hf
  obtain ⟨g0, g1, g2, g3, g4, g5, g6, g7, rfl⟩ : ∃ g0 g1 g2 g3 g4 g5 g6 g7, xs = [g0, g1, g2, g3, g4, g5, g6, g7] := by
    match xs, hxl with
    | [g0, g1, g2, g3, g4, g5, g6, g7], _ => exact ⟨g0, g1, g2, g3, g4, g5, g6, g7, rfl⟩
  have e0 : DataW.trod enc P W 0 (fun _ => true) true n e [c0] = some g0 := by simpa [Value.cells, ke] using hff 0 (by omega)
  have e1 : DataW.trod enc P W 0 (fun _ => true) true n e [c1] = some g1 := by simpa [Value.cells, ke] using hff 1 (by omega)
  have e2 : DataW.trod enc P W 0 (fun _ => true) true n e [c2] = some g2 := by simpa [Value.cells, ke] using hff 2 (by omega)
  have e3 : DataW.trod enc P W 0 (fun _ => true) true n e [c3] = some g3 := by simpa [Value.cells, ke] using hff 3 (by omega)
  have e4 : DataW.trod enc P W 0 (fun _ => true) true n e [c4] = some g4 := by simpa [Value.cells, ke] using hff 4 (by omega)
  have e5 : DataW.trod enc P W 0 (fun _ => true) true n e [c5] = some g5 := by simpa [Value.cells, ke] using hff 5 (by omega)
  have e6 : DataW.trod enc P W 0 (fun _ => true) true n e [c6] = some g6 := by simpa [Value.cells, ke] using hff 6 (by omega)
  have e7 : DataW.trod enc P W 0 (fun _ => true) true n e [c7] = some g7 := by simpa [Value.cells, ke] using hff 7 (by omega)
  obtain ⟨b0, hq0, -, u0⟩ := DataW.trod_int he e0
  obtain ⟨b1, hq1, -, u1⟩ := DataW.trod_int he e1
  obtain ⟨b2, hq2, -, u2⟩ := DataW.trod_int he e2
  obtain ⟨b3, hq3, -, u3⟩ := DataW.trod_int he e3
  obtain ⟨b4, hq4, -, u4⟩ := DataW.trod_int he e4
  obtain ⟨b5, hq5, -, u5⟩ := DataW.trod_int he e5
  obtain ⟨b6, hq6, -, u6⟩ := DataW.trod_int he e6
  obtain ⟨b7, hq7, -, u7⟩ := DataW.trod_int he e7
  obtain rfl : c0 = .int .u64 b0 := by simpa using hq0
  obtain rfl : c1 = .int .u64 b1 := by simpa using hq1
  obtain rfl : c2 = .int .u64 b2 := by simpa using hq2
  obtain rfl : c3 = .int .u64 b3 := by simpa using hq3
  obtain rfl : c4 = .int .u64 b4 := by simpa using hq4
  obtain rfl : c5 = .int .u64 b5 := by simpa using hq5
  obtain rfl : c6 = .int .u64 b6 := by simpa using hq6
  obtain rfl : c7 = .int .u64 b7 := by simpa using hq7
  refine ⟨[b0, b1, b2, b3, b4, b5, b6, b7], rfl, rfl, fun x hx => ?_⟩
  simp only [List.mem_cons, List.not_mem_nil, or_false] at hx
  rcases hx with rfl | rfl | rfl | rfl | rfl | rfl | rfl | rfl <;> assumption
end Go.Proofs.YthinfmfjpaikiaaDoor

/- Arrays of whole numbers: as values, and as variables in memory. -/
import Derived.Test.YtbjeemlbjkmhiaaDoorTurn
import Derived.Test.YtbjeemlbjkmhiaaDoorWMore
import Derived.Laws.Tables
import Derived.Laws.Rows
import Derived.Laws.CopyOwn
import Derived.Deep.WholeRow
import Derived.Great.Ranges
namespace Go.Proofs.YtbjeemlbjkmhiaaDoor.Q
open Go.RowKit Go.Proofs.YtbjeemlbjkmhiaaDoorW.PrintWords Go.Proofs.YtbjeemlbjkmhiaaDoorW.PrintLast Go.Proofs.YtbjeemlbjkmhiaaDoorW.PrintMore
def arC (l : List Int) : Array Value := (l.map (Value.int .u64)).toArray
def arW (k : IntKind) (l : List Int) : Value := .agg (l.map (Value.int k)).toArray
theorem arC_size (l : List Int) : (arC l).size = l.length := by simp [arC]
theorem arC_get {l : List Int} {i : Nat} (h : i < l.length) : (arC l)[i]? = some (.int .u64 (bco l i)) := by
  simp [arC, bco, List.getD, h]
theorem arC_one (l : List Int) : (arC l).all (·.oneCell') = true := by
  rw [Array.all_eq_true_iff_forall_mem]
  intro x hx
  obtain ⟨c, _, rfl⟩ := List.mem_map.1 (by simpa [arC] using hx)
  rfl
theorem arC_set (l : List Int) (i : Nat) (v : Int) : (arC l).setIfInBounds i (.int .u64 v) = arC (l.set i v) := by
  simp [arC, List.map_set]
def Arr (w : World) (B t : Nat) (l : List Int) : Prop := w.heap[B]? = some (.cells (arC l) t (0, 0))
section
variable {w w1 : World} {B t base : Nat} {l : List Int}
theorem Arr.lt (h : Arr w B t l) : B < w.heap.size := (Array.getElem?_eq_some_iff.1 h).1
theorem Arr.below (h : Arr w B t l) (hb : Below w.heap.size w w1) : Arr w1 B t l := (hb.block B h.lt).trans h
theorem Arr.part (h : Arr w B t l) : Part w B 0 l := ⟨arC l, t, h, by rw [arC_size]; omega, fun i hi => by rw [Nat.zero_add]; exact arC_get hi⟩
theorem Arr.C (h : Arr w B t l) (hl : l.length ≤ 9223372036854775807) : Kd.C (Kd.int .u64) w (some ⟨B, 0, none⟩) l.length l := by
  refine ⟨rfl, hl, fun _ => ⟨_, rfl, fun j p hp => ⟨[.int .u64 p], rfl, rfl, fun i u hu => ?_⟩⟩⟩
  have hj : j < l.length := (List.getElem?_eq_some_iff.1 hp).1
  obtain rfl : i = 0 := by
    cases i with
    | zero => rfl
    | succ i => simp at hu
  have e : bco l j = p := by simp [bco, List.getD, hp]
  have hu' : Value.int .u64 p = u := by simpa using hu
  have := h.part.cell hj
  rw [e] at this
  rw [← hu', show (Kd.int .u64).sz = 1 from rfl, Nat.mul_one, Nat.add_zero, show (⟨B, 0, none⟩ : Addr).add j = ⟨B, 0 + j, none⟩ by unfold Addr.add; split <;> simp_all]
  exact this
theorem Arr.set (h : Arr w B t l) (i : Nat) (v : Int) : Arr (w.setCell ⟨B, i, none⟩ (.int .u64 v)) B t (l.set i v) := by
  rw [setCell_eq_setRow w B i _ t (0, 0) _ h, arC_set]
  exact setRow_heap w B _ _ t (0, 0) h
theorem Arr.setRow (h : Arr w B t l) (r : List Int) : Arr (w.setRow B (arC r)) B t r := setRow_heap w B _ _ t (0, 0) h
theorem Arr.grown (h : Arr w B t l) {row : Option Nat} (hg : w.grownBy w1 row) (hn : some B ≠ row) : Arr w1 B t l := (hg.block B h.lt hn).trans h
variable {P : Program} {n e : Nat}
theorem Arr.store (h : Arr w B t l) {r : List Int} (hr : r.length = l.length) (hi : (P.info? t).map (·.size) = some l.length) : (storeVar t ⟨B, 0, none⟩ (arW .u64 r)).run P w = .ok () (w.setRow B (arC r)) :=
  run_storeVar_row w B t t (arC l) (arC r) h (by rw [arC_size, hr]; exact hi) (by rw [arC_size, arC_size, hr]) (arC_one r)
end
section
variable {P : Program} {ops : Array Oper} {Q : Exit → Act → World → Prop} {rest : List Oper} {oi : Oper} {a : Act} {w : World}
end
end Go.Proofs.YtbjeemlbjkmhiaaDoor.Q

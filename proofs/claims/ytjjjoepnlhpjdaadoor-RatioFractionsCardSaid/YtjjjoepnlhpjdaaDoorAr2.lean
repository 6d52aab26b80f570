/- Arrays of uint32 as variables in memory. -/
import Derived.Test.YtjjjoepnlhpjdaaDoorRat
import Derived.Test.YtjjjoepnlhpjdaaDoorProg
import Derived.Laws.Tables
import Derived.Laws.Rows
import Derived.Laws.CopyOwn
import Derived.Deep.WholeRow
import Derived.Great.Ranges
import Derived.ChangeKeysEq
import Derived.Laws.StructEq
namespace Go.Proofs.YtjjjoepnlhpjdaaDoor.Q
open Go.RowKit Go.Proofs.YtjjjoepnlhpjdaaDoorW.PrintWords Go.Proofs.YtjjjoepnlhpjdaaDoorW.PrintLast Go.Proofs.YtjjjoepnlhpjdaaDoorW.PrintMore
def bco (l : List Int) (i : Nat) : Int := l.getD i 0
def arC (l : List Int) : Array Value := (l.map (Value.int .u32)).toArray
theorem arC_get {l : List Int} {i : Nat} (h : i < l.length) : (arC l)[i]? = some (.int .u32 (bco l i)) := by
  simp [arC, bco, List.getD, h]
def Arr (w : World) (B t : Nat) (l : List Int) : Prop := w.heap[B]? = some (.cells (arC l) t (0, 0))
section
variable {w w1 : World} {B t base : Nat} {l : List Int}
theorem Arr.lt (h : Arr w B t l) : B < w.heap.size := (Array.getElem?_eq_some_iff.1 h).1
theorem Arr.below (h : Arr w B t l) (hb : Below w.heap.size w w1) : Arr w1 B t l := (hb.block B h.lt).trans h
theorem Arr.cell (h : Arr w B t l) {i : Nat} (hi : i < l.length) : w.cell? ⟨B, i, none⟩ = some (.int .u32 (bco l i)) := by
  unfold Arr at h
  simp [World.cell?, h, arC_get hi]
end
section
variable {P : Program} {ops : Array Oper} {Q : Exit → Act → World → Prop} {rest : List Oper} {oi : Oper} {a : Act} {w : World}
end
section
variable {P : Program} {ops : Array Oper} {rest : List Oper} {o : Oper} {a : Act} {Q : Exit → Act → World → Prop}
end
end Go.Proofs.YtjjjoepnlhpjdaaDoor.Q

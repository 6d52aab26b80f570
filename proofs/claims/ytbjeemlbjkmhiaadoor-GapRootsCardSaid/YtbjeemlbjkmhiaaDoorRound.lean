/- A region in the round of a loop over a function, walked by the plain words: what the plain walk of the region comes to is what its walk in the round comes to, where no operation is a defer statement. -/
import Derived.RangeFuncNested
import Derived.RangeFuncWrites
import Derived.RangeFuncFrom
import Derived.RangeFuncCalls
import Derived.RangeFuncBound
import Derived.RangeFuncLeaves
import Derived.TacticsIn
import Derived.OrdersIn
import Derived.Tactics
import Derived.Orders
import Derived.Test.YtbjeemlbjkmhiaaDoorWLast
namespace Go.Proofs.YtbjeemlbjkmhiaaDoor
open Go.RowKit
set_option linter.unusedVariables false

variable {P : Program}

structure KeepsP (p : Nat → Prop) (W W' : World) : Prop where
  size : W.heap.size ≤ W'.heap.size
  same : ∀ b, p b → W'.heap[b]? = W.heap[b]?
theorem KeepsP.refl (p : Nat → Prop) (W : World) : KeepsP p W W := ⟨Nat.le_refl _, fun _ _ => rfl⟩
theorem KeepsP.trans {p : Nat → Prop} {A B C : World} (h : KeepsP p A B) (k : KeepsP p B C) : KeepsP p A C := ⟨Nat.le_trans h.size k.size, fun b hb => (k.same b hb).trans (h.same b hb)⟩
theorem KeepsP.cell {p : Nat → Prop} {W W' : World} (h : KeepsP p W W') {q : Addr} (hq : p q.block) : W'.cell? q = W.cell? q := World.cell?_of_block (w := W) (h.same q.block hq)
theorem KeepsP.of_below {p : Nat → Prop} {B : Nat} {W W' : World} (h : Below B W W') (hp : ∀ b, p b → b < B) : KeepsP p W W' := ⟨h.size, fun b hb => h.block b (hp b hb)⟩
theorem KeepsP.put {p : Nat → Prop} {W : World} {l : Nat} (o : Obj) (hp : ∀ b, p b → b ≠ l) : KeepsP p W (W.putObj l o) :=
  ⟨by simp [World.putObj], fun b hb => World.putObj_heap_other (hp b hb)⟩

section seq
variable {F : Fence} {n : Nat}

def OnPost (B : Nat) (K : World → World → Prop) (I : World → Prop) (W : World) : Exit → Act → World → Prop
  | .normal, _, W' => KeepsFrom B W W' ∧ K W W' ∧ I W'
  | _, _, _ => False
end seq
end Go.Proofs.YtbjeemlbjkmhiaaDoor

/- A region in the round of a loop over a function, walked by the plain words: what the plain walk of the region comes to is what its walk in the round comes to, where no operation is a defer statement. -/
import Derived.RangeFuncNested
import Derived.RangeFuncWrites
import Derived.RangeFuncFrom
import Derived.RangeFuncCalls
import Derived.RangeFuncBound
import Derived.RangeFuncLeaves
import Derived.TacticsIn
import Derived.OrdersIn
import Derived.Tactics
import Derived.Orders
import Derived.Test.YtbjeemlbjkmhiaaDoorWLast
namespace Go.Proofs.YtbjeemlbjkmhiaaDoor
open Go.RowKit
set_option linter.unusedVariables false

variable {P : Program}

theorem rowsIn_ {l n : Nat} {row : String} {args : Array Value} {w : World} {R : Value → World → Prop} (h : Rows P row args w R) : RowsIn (Fence.wide.inRound l) n P row args w R :=
  fun c cs _ => let ⟨v, w', r, s⟩ := h c cs; ⟨v, w', r, by rw [fenced_inRound]; exact stepsIn_wide.2 s⟩

theorem operIn_ {l n : Nat} {o : Oper} {a : Act} {w : World} {K : Act → World → Prop} {Q : Exit → Act → World → Prop} (hnd : ∀ c, o.op ≠ .defer c) (h : o.wp P a w K Q) : o.wpIn (Fence.wide.inRound l) n P a w K Q := by
  refine ⟨fun _ _ => trivial, ?_⟩
  rw [show (Fence.wide.inRound l).round = some l from rfl, Oper.semAt_some l _ _ hnd]
  unfold Oper.wp at h
  generalize (execOp a.eval o).run P w = r at h ⊢
  cases r with
  | ok x w' =>
    cases x with
    | enter f args =>
      refine ⟨fun e => ?_, CallsIn.inRound l (callsIn_wide.2 h)⟩
      cases e
    | row row args =>
      refine ⟨fun e => ?_, rowsIn_ h⟩
      cases e
    | round _ _ _ _ _ => exact h.elim
    | _ => exact h
  | halt s w' => cases s <;> exact h

def noDefer (ops : Array Oper) : Bool := ops.all fun o => match o.op with | .defer _ => false | _ => true
theorem noDefer_at {ops : Array Oper} (h : noDefer ops = true) {i : Nat} {o : Oper} (hi : ops[i]? = some o) : ∀ c, o.op ≠ .defer c := by
  intro c hc
  have := (Array.all_eq_true.1 h) i (Array.getElem?_eq_some_iff.1 hi).1
  rw [(Array.getElem?_eq_some_iff.1 hi).2, hc] at this
  simp at this

theorem wpOpIn_ {l n : Nat} {ops : Array Oper} {Q : Exit → Act → World → Prop} {i : Nat} {K : Act → World → Prop} {a : Act} {w : World} (hn : noDefer ops = true) (hQ : ¬ LetsOut Q) (h : wpOp P ops Q i K a w) :
    wpOpIn (Fence.wide.inRound l) n P ops Q i K a w := by
  unfold wpOp at h
  unfold wpOpIn
  cases hi : ops[i]? with
  | none => simpa [hi] using h
  | some o =>
    simp only [hi] at h ⊢
    by_cases hw : Region.wanted o (yielded ops a.tmps) = true
    · rw [if_pos hw] at h ⊢
      exact operIn_ (noDefer_at hn hi) (h.resolve_right fun h => hQ h.2)
    · rw [if_neg hw] at h ⊢
      exact ⟨fun _ _ => trivial, h⟩

theorem wpOpsIn_ {l n : Nat} {ops : Array Oper} {Q : Exit → Act → World → Prop} (hn : noDefer ops = true) (hQ : ¬ LetsOut Q) : ∀ (is : List Nat) (a : Act) (w : World), wpOps P ops Q is a w →
    wpOpsIn (Fence.wide.inRound l) n P ops Q is a w
  | [], _, _, h => h
  | i :: is, a, w, h => by
    rw [wpOps_cons] at h
    rw [wpOpsIn_cons]
    refine wpOpIn_ hn hQ ?_
    exact wpOp_mono (fun a w => wpOpsIn_ hn hQ is a w) h

theorem wpAnyIn_ {l n : Nat} {md : Region.Mode} {ops : Array Oper} {Q : Exit → Act → World → Prop} (hn : noDefer ops = true) (hQ : ¬ LetsOut Q) : ∀ (fuel : Nat) (listed : Array Bool) (a : Act) (w : World),
    wpAny P md ops Q fuel listed a w → wpAnyIn (Fence.wide.inRound l) n P md ops Q fuel listed a w
  | 0, _, _, _, h => h
  | fuel + 1, listed, a, w, h => ⟨h.1, fun i hi => wpOpIn_ hn hQ (wpOp_mono (fun a w => wpAnyIn_ hn hQ fuel _ a w) (h.2 i hi))⟩

theorem regIn_list {l n id : Nat} {os : List Oper} {Q : Exit → Act → World → Prop} {a : Act} {w : World} (hn : noDefer os.toArray = true) (hQ : ¬ LetsOut Q) (h : wpList P os.toArray Q os a w) :
    (Code.region id os.toArray false).wpIn (Fence.wide.inRound l) n P Q a w := by
  refine wpIn_region (wpOpsIn_ hn hQ _ _ _ ?_)
  rw [List.range_eq_range', show os.toArray.size = os.length from by simp, wpOps_eq_wpList os 0 (by simp)]
  exact h

theorem startIn_ {ops : Array Oper} {Q : Exit → Act → World → Prop} {S : World → Prop} {ds : List Nat} {l nr id n : Nat} {a : Act} {w : World} (hn : noDefer ops = true) (hQ : ¬ LetsOut Q) (b : Array Bool) (hm : P.follows .mixedOrders = true) (hs : ops.size = n) (hl : Array.replicate n false = b) (hS : S w.drew)
    (h : S w.drew → Go.Proofs.YtbjeemlbjkmhiaaDoorW.PrintLast.wpAnyLast P .any ops Q S ds n b a w.drew) : (Code.region id ops true).wpIn (Fence.wide.inRound l) nr P Q a w := by
  subst hs
  subst hl
  exact wpIn_region_any hm (wpAnyIn_ hn hQ _ _ _ _ (Go.Proofs.YtbjeemlbjkmhiaaDoorW.PrintLast.wpAny_of_last _ _ _ _ (h hS)))

structure KeepsP (p : Nat → Prop) (W W' : World) : Prop where
  size : W.heap.size ≤ W'.heap.size
  same : ∀ b, p b → W'.heap[b]? = W.heap[b]?
theorem KeepsP.refl (p : Nat → Prop) (W : World) : KeepsP p W W := ⟨Nat.le_refl _, fun _ _ => rfl⟩
theorem KeepsP.trans {p : Nat → Prop} {A B C : World} (h : KeepsP p A B) (k : KeepsP p B C) : KeepsP p A C := ⟨Nat.le_trans h.size k.size, fun b hb => (k.same b hb).trans (h.same b hb)⟩
theorem KeepsP.cell {p : Nat → Prop} {W W' : World} (h : KeepsP p W W') {q : Addr} (hq : p q.block) : W'.cell? q = W.cell? q := World.cell?_of_block (w := W) (h.same q.block hq)
theorem KeepsP.of_below {p : Nat → Prop} {B : Nat} {W W' : World} (h : Below B W W') (hp : ∀ b, p b → b < B) : KeepsP p W W' := ⟨h.size, fun b hb => h.block b (hp b hb)⟩
theorem KeepsP.put {p : Nat → Prop} {W : World} {l : Nat} (o : Obj) (hp : ∀ b, p b → b ≠ l) : KeepsP p W (W.putObj l o) :=
  ⟨by simp [World.putObj], fun b hb => World.putObj_heap_other (hp b hb)⟩

section seq
variable {F : Fence} {n : Nat}

def OnPost (B : Nat) (K : World → World → Prop) (I : World → Prop) (W : World) : Exit → Act → World → Prop
  | .normal, _, W' => KeepsFrom B W W' ∧ K W W' ∧ I W'
  | _, _, _ => False
end seq
end Go.Proofs.YtbjeemlbjkmhiaaDoor

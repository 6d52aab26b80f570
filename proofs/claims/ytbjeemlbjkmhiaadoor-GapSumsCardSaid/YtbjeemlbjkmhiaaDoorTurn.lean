/- A part of a block, and what it means that a call has turned it and left all else. -/
import Derived.Test.YtbjeemlbjkmhiaaDoorFld
import Derived.Below
namespace Go.Proofs.YtbjeemlbjkmhiaaDoor
open Go.RowKit

def bco (l : List Int) (i : Nat) : Int := l.getD i 0
def Part (w : World) (B off : Nat) (xs : List Int) : Prop := ∃ cs t, w.heap[B]? = some (.cells cs t (0, 0)) ∧ off + xs.length ≤ cs.size ∧ ∀ i, i < xs.length → cs[off + i]? = some (.int .u64 (bco xs i))
structure Turn (B off : Nat) (ys : List Int) (w w' : World) : Prop where
  os : w'.os = w.os
  tape : w'.tape = w.tape
  output : w'.output = w.output
  size : w.heap.size ≤ w'.heap.size
  block : ∀ k, k < w.heap.size → k ≠ B → w'.heap[k]? = w.heap[k]?
  part : ∃ cs cs' t, w.heap[B]? = some (.cells cs t (0, 0)) ∧ w'.heap[B]? = some (.cells cs' t (0, 0)) ∧ cs'.size = cs.size ∧ off + ys.length ≤ cs.size ∧ (∀ i, i < off ∨ off + ys.length ≤ i → cs'[i]? = cs[i]?) ∧ ∀ i, i < ys.length → cs'[off + i]? = some (.int .u64 (bco ys i))
theorem Part.lt {w : World} {B off : Nat} {xs : List Int} (h : Part w B off xs) : B < w.heap.size := by
  obtain ⟨cs, t, h1, _⟩ := h
  exact (Array.getElem?_eq_some_iff.1 h1).1
theorem Part.below {w w1 : World} {B off : Nat} {xs : List Int} (h : Part w B off xs) (hb : Below w.heap.size w w1) : Part w1 B off xs := by
  have hl := h.lt
  obtain ⟨cs, t, h1, h2⟩ := h
  exact ⟨cs, t, (hb.block B hl).trans h1, h2⟩
theorem Part.cell {w : World} {B off : Nat} {xs : List Int} (h : Part w B off xs) {i : Nat} (hi : i < xs.length) : w.cell? ⟨B, off + i, none⟩ = some (.int .u64 (bco xs i)) := by
  obtain ⟨cs, t, h1, _, h3⟩ := h
  simp [World.cell?, h1, h3 i hi]
theorem Part.sub {w : World} {B off d : Nat} {xs ys : List Int} (h : Part w B off xs) (hd : d + ys.length ≤ xs.length) (hc : ∀ i, i < ys.length → bco ys i = bco xs (d + i)) : Part w B (off + d) ys := by
  obtain ⟨cs, t, h1, h2, h3⟩ := h
  refine ⟨cs, t, h1, by omega, fun i hi => ?_⟩
  rw [hc i hi, ← h3 (d + i) (by omega), Nat.add_assoc]
theorem Turn.lt {w w1 : World} {B off : Nat} {ys : List Int} (h : Turn B off ys w w1) : B < w.heap.size := by
  obtain ⟨cs, cs', t, h1, _⟩ := h.part
  exact (Array.getElem?_eq_some_iff.1 h1).1
theorem Turn.of_below {w w1 : World} {B off : Nat} {xs : List Int} (h : Part w B off xs) (hb : Below w.heap.size w w1) : Turn B off xs w w1 := by
  have hl := h.lt
  obtain ⟨cs, t, h1, h2, h3⟩ := h
  exact ⟨hb.os, hb.tape, hb.output, hb.size, fun k hk _ => hb.block k hk, cs, cs, t, h1, (hb.block B hl).trans h1, rfl, h2, fun _ _ => rfl, h3⟩
theorem Turn.below {w w1 w2 : World} {B off : Nat} {ys : List Int} (h : Turn B off ys w w1) (hb : Below w1.heap.size w1 w2) : Turn B off ys w w2 := by
  have hl := h.lt
  obtain ⟨cs, cs', t, h1, h2, h3⟩ := h.part
  have := h.size
  exact ⟨hb.os.trans h.os, hb.tape.trans h.tape, hb.output.trans h.output, Nat.le_trans h.size hb.size, fun k hk hn => (hb.block k (by omega)).trans (h.block k hk hn), cs, cs', t, h1, (hb.block B (by omega)).trans h2, h3⟩
theorem Turn.now {w w1 : World} {B off : Nat} {ys : List Int} (h : Turn B off ys w w1) : Part w1 B off ys := by
  obtain ⟨cs, cs', t, _, h2, h3, h4, _, h6⟩ := h.part
  exact ⟨cs', t, h2, by omega, h6⟩
theorem Turn.sub {w w1 w2 : World} {B off d : Nat} {xs ys zs : List Int} (h : Turn B off xs w w1) (g : Turn B (off + d) ys w1 w2) (hd : d + ys.length ≤ xs.length) (hz : zs.length = xs.length)
    (hc : ∀ i, i < xs.length → bco zs i = if d ≤ i ∧ i < d + ys.length then bco ys (i - d) else bco xs i) : Turn B off zs w w2 := by
  obtain ⟨cs, cs', t, h1, h2, h3, h4, h5, h6⟩ := h.part
  obtain ⟨ds, ds', t', g1, g2, g3, g4, g5, g6⟩ := g.part
  have e := g1.symm.trans h2
  simp only [Option.some.injEq, Obj.cells.injEq] at e
  obtain ⟨rfl, rfl, _⟩ := e
  have hs := h.size
  refine ⟨g.os.trans h.os, g.tape.trans h.tape, g.output.trans h.output, Nat.le_trans h.size g.size, fun k hk hn => (g.block k (by omega) hn).trans (h.block k hk hn), cs, ds', t', h1, g2, by omega, by omega, fun i hi => ?_, fun i hi => ?_⟩
  · rw [g5 i (by omega), h5 i (by omega)]
  · rw [hz] at hi
    rw [hc i hi]
    by_cases q : d ≤ i ∧ i < d + ys.length
    · rw [if_pos q, ← g6 (i - d) (by omega)]
      congr 1
      omega
    · rw [if_neg q, g5 (off + i) (by omega)]
      exact h6 i hi
theorem Turn.set {w : World} {B off : Nat} {xs : List Int} (h : Part w B off xs) {i : Nat} (hi : i < xs.length) (v : Int) : Turn B (off + i) [v] w (w.setCell ⟨B, off + i, none⟩ (.int .u64 v)) := by
  obtain ⟨cs, t, h1, h2, h3⟩ := h
  have hB := (Array.getElem?_eq_some_iff.1 h1).1
  have hh : ∀ k, (w.setCell ⟨B, off + i, none⟩ (.int .u64 v)).heap[k]? = if k = B then some (.cells (cs.setIfInBounds (off + i) (.int .u64 v)) t (0, 0)) else w.heap[k]? := fun k => by
    by_cases e : k = B
    · subst e
      simp [World.setCell, Array.getElem?_modify, h1]
    · simp [World.setCell, Array.getElem?_modify, Ne.symm e, e]
  refine ⟨rfl, rfl, rfl, by simp [World.setCell], fun k _ hn => by rw [hh, if_neg hn], cs, cs.setIfInBounds (off + i) (.int .u64 v), t, h1, by rw [hh, if_pos rfl], by simp, by simp; omega, fun j hj => ?_, fun j hj => ?_⟩
  · rw [Array.getElem?_setIfInBounds_ne (by simp at hj; omega)]
  · obtain rfl : j = 0 := by simpa using hj
    rw [Nat.add_zero, Array.getElem?_setIfInBounds_self_of_lt (by omega)]
    rfl
theorem Turn.put {w w1 : World} {B off : Nat} {xs : List Int} (h : Turn B off xs w w1) {i : Nat} (hi : i < xs.length) (v : Int) : Turn B off (xs.set i v) w (w1.setCell ⟨B, off + i, none⟩ (.int .u64 v)) := by
  refine h.sub (Turn.set h.now hi v) (by simp; omega) (by simp) fun j hj => ?_
  unfold bco
  by_cases e : j = i
  · subst e; simp [hj]
  · rw [if_neg (by simp; omega)]
    simp [List.getD, List.getElem?_set, Ne.symm e]
theorem Turn.low {w w1 w2 : World} {B off n : Nat} {l lo : List Int} (h : Turn B off l w w1) (g : Turn B off lo w1 w2) (hn : l.length = n) (h1 : lo.length = n / 2) (h2 : 2 ≤ n) : Turn B off (lo ++ l.drop (n / 2)) w w2 := by
  refine h.sub (d := 0) g (by omega) (by simp; omega) fun i hi => ?_
  simp only [bco, List.getD, List.getElem?_append, List.getElem?_drop]
  by_cases q : i < lo.length
  · rw [if_pos q, if_pos ⟨Nat.zero_le _, by omega⟩, Nat.sub_zero]
  · rw [if_neg q, if_neg (by omega), show n / 2 + (i - lo.length) = i by omega]
section
open Go.Proofs.YtbjeemlbjkmhiaaDoorW.PrintWords
theorem Turn.grown {B off : Nat} {ys : List Int} {w w1 : World} (T : Turn B off ys w w1) : w.grownBy w1 (some B) := ⟨T.os, T.tape, T.output, T.size, fun k hk hn => T.block k hk (fun e => hn (by rw [e]))⟩
end
end Go.Proofs.YtbjeemlbjkmhiaaDoor

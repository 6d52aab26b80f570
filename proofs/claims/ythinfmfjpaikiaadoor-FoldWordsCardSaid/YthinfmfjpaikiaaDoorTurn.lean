/- A part of a block, and what it means that a call has turned it and left all else. -/
import Derived.Test.YthinfmfjpaikiaaDoorFld
import Derived.Below
namespace Go.Proofs.YthinfmfjpaikiaaDoor
open Go.RowKit

def bco (l : List Int) (i : Nat) : Int := l.getD i 0
def Part (w : World) (B off : Nat) (xs : List Int) : Prop := ∃ cs t, w.heap[B]? = some (.cells cs t (0, 0)) ∧ off + xs.length ≤ cs.size ∧ ∀ i, i < xs.length → cs[off + i]? = some (.int .u64 (bco xs i))
structure Turn (B off : Nat) (ys : List Int) (w w' : World) : Prop where
  os : w'.os = w.os
  tape : w'.tape = w.tape
  output : w'.output = w.output
  size : w.heap.size ≤ w'.heap.size
  block : ∀ k, k < w.heap.size → k ≠ B → w'.heap[k]? = w.heap[k]?
  part : ∃ cs cs' t, w.heap[B]? = some (.cells cs t (0, 0)) ∧ w'.heap[B]? = some (.cells cs' t (0, 0)) ∧ cs'.size = cs.size ∧ off + ys.length ≤ cs.size ∧ (∀ i, i < off ∨ off + ys.length ≤ i → cs'[i]? = cs[i]?) ∧ ∀ i, i < ys.length → cs'[off + i]? = some (.int .u64 (bco ys i))
theorem Part.lt {w : World} {B off : Nat} {xs : List Int} (h : Part w B off xs) : B < w.heap.size := by
  obtain ⟨cs, t, h1, _⟩ := h
  exact (Array.getElem?_eq_some_iff.1 h1).1
theorem Part.below {w w1 : World} {B off : Nat} {xs : List Int} (h : Part w B off xs) (hb : Below w.heap.size w w1) : Part w1 B off xs := by
  have hl := h.lt
  obtain ⟨cs, t, h1, h2⟩ := h
  exact ⟨cs, t, (hb.block B hl).trans h1, h2⟩
theorem Part.cell {w : World} {B off : Nat} {xs : List Int} (h : Part w B off xs) {i : Nat} (hi : i < xs.length) : w.cell? ⟨B, off + i, none⟩ = some (.int .u64 (bco xs i)) := by
  obtain ⟨cs, t, h1, _, h3⟩ := h
  simp [World.cell?, h1, h3 i hi]
theorem Part.sub {w : World} {B off d : Nat} {xs ys : List Int} (h : Part w B off xs) (hd : d + ys.length ≤ xs.length) (hc : ∀ i, i < ys.length → bco ys i = bco xs (d + i)) : Part w B (off + d) ys := by
  obtain ⟨cs, t, h1, h2, h3⟩ := h
  refine ⟨cs, t, h1, by omega, fun i hi => ?_⟩
  rw [hc i hi, ← h3 (d + i) (by omega), Nat.add_assoc]
theorem Turn.lt {w w1 : World} {B off : Nat} {ys : List Int} (h : Turn B off ys w w1) : B < w.heap.size := by
  obtain ⟨cs, cs', t, h1, _⟩ := h.part
  exact (Array.getElem?_eq_some_iff.1 h1).1
theorem Turn.of_below {w w1 : World} {B off : Nat} {xs : List Int} (h : Part w B off xs) (hb : Below w.heap.size w w1) : Turn B off xs w w1 := by
  have hl := h.lt
  obtain ⟨cs, t, h1, h2, h3⟩ := h
  exact ⟨hb.os, hb.tape, hb.output, hb.size, fun k hk _ => hb.block k hk, cs, cs, t, h1, (hb.block B hl).trans h1, rfl, h2, fun _ _ => rfl, h3⟩
theorem Turn.below {w w1 w2 : World} {B off : Nat} {ys : List Int} (h : Turn B off ys w w1) (hb : Below w1.heap.size w1 w2) : Turn B off ys w w2 := by
  have hl := h.lt
  obtain ⟨cs, cs', t, h1, h2, h3⟩ := h.part
  have := h.size
  exact ⟨hb.os.trans h.os, hb.tape.trans h.tape, hb.output.trans h.output, Nat.le_trans h.size hb.size, fun k hk hn => (hb.block k (by omega)).trans (h.block k hk hn), cs, cs', t, h1, (hb.block B (by omega)).trans h2, h3⟩
theorem Turn.now {w w1 : World} {B off : Nat} {ys : List Int} (h : Turn B off ys w w1) : Part w1 B off ys := by
  obtain ⟨cs, cs', t, _, h2, h3, h4, _, h6⟩ := h.part
  exact ⟨cs', t, h2, by omega, h6⟩
theorem Turn.sub {w w1 w2 : World} {B off d : Nat} {xs ys zs : List Int} (h : Turn B off xs w w1) (g : Turn B (off + d) ys w1 w2) (hd : d + ys.length ≤ xs.length) (hz : zs.length = xs.length)
    (hc : ∀ i, i < xs.length → bco zs i = if d ≤ i ∧ i < d + ys.length then bco ys (i - d) else bco xs i) : Turn B off zs w w2 := by
  obtain ⟨cs, cs', t, h1, h2, h3, h4, h5, h6⟩ := h.part
  obtain ⟨ds, ds', t', g1, g2, g3, g4, g5, g6⟩ := g.part
  have e := g1.symm.trans h2
  simp only [Option.some.injEq, Obj.cells.injEq] at e
  obtain ⟨rfl, rfl, _⟩ := e
  have hs := h.size
  refine ⟨g.os.trans h.os, g.tape.trans h.tape, g.output.trans h.output, Nat.le_trans h.size g.size, fun k hk hn => (g.block k (by omega) hn).trans (h.block k hk hn), cs, ds', t', h1, g2, by omega, by omega, fun i hi => ?_, fun i hi => ?_⟩
  · rw [g5 i (by omega), h5 i (by omega)]
  · rw [hz] at hi
    rw [hc i hi]
    by_cases q : d ≤ i ∧ i < d + ys.length
    · rw [if_pos q, ← g6 (i - d) (by omega)]
      congr 1
      omega
    · rw [if_neg q, g5 (off + i) (by omega)]
      exact h6 i hi
theorem Turn.set {w : World} {B off : Nat} {xs : List Int} (h : Part w B off xs) {i : Nat} (hi : i < xs.length) (v : Int) : Turn B (off + i) [v] w (w.setCell ⟨B, off + i, none⟩ (.int .u64 v)) := by
  obtain ⟨cs, t, h1, h2, h3⟩ := h
  have hB := (Array.getElem?_eq_some_iff.1 h1).1
  have hh : ∀ k, (w.setCell ⟨B, off + i, none⟩ (.int .u64 v)).heap[k]? = if k = B then some (.cells (cs.setIfInBounds (off + i) (.int .u64 v)) t (0, 0)) else w.heap[k]? := fun k => by
    by_cases e : k = B
    · subst e
      simp [World.setCell, Array.getElem?_modify, h1]
    · simp [World.setCell, Array.getElem?_modify, Ne.symm e, e]
  refine ⟨rfl, rfl, rfl, by simp [World.setCell], fun k _ hn => by rw [hh, if_neg hn], cs, cs.setIfInBounds (off + i) (.int .u64 v), t, h1, by rw [hh, if_pos rfl], by simp, by simp; omega, fun j hj => ?_, fun j hj => ?_⟩
  · rw [Array.getElem?_setIfInBounds_ne (by simp at hj; omega)]
  · obtain rfl : j = 0 := by simpa using hj
    rw [Nat.add_zero, Array.getElem?_setIfInBounds_self_of_lt (by omega)]
    rfl
theorem Turn.put {w w1 : World} {B off : Nat} {xs : List Int} (h : Turn B off xs w w1) {i : Nat} (hi : i < xs.length) (v : Int) : Turn B off (xs.set i v) w (w1.setCell ⟨B, off + i, none⟩ (.int .u64 v)) := by
  refine h.sub (Turn.set h.now hi v) (by simp; omega) (by simp) fun j hj => ?_
  unfold bco
  by_cases e : j = i
  · subst e; simp [hj]
  · rw [if_neg (by simp; omega)]
    simp [List.getD, List.getElem?_set, Ne.symm e]
theorem bco_take {l : List Int} {m i : Nat} (hi : i < (l.take m).length) : bco (l.take m) i = bco l i := by
  rw [List.length_take] at hi
  simp [bco, List.getElem?_take, show i < m by omega]
theorem bco_app {lo l : List Int} {m i : Nat} (h : lo.length = m) : bco (l.drop m) i = bco (lo ++ l.drop m) (m + i) := by
  simp only [bco, List.getD, List.getElem?_append, List.getElem?_drop]
  rw [if_neg (by omega), show m + i - lo.length = i by omega]
theorem Part.sub0 {w : World} {B off : Nat} {xs ys : List Int} (h : Part w B off xs) (hd : ys.length ≤ xs.length) (hc : ∀ i, i < ys.length → bco ys i = bco xs i) : Part w B off ys := by
  have := h.sub (d := 0) (ys := ys) (by omega) (fun i hi => by rw [Nat.zero_add]; exact hc i hi)
  simpa using this
def NoTab (B : Nat) : Prop := 0 ≠ B ∧ 2 ≠ B
theorem Fld.turn {w w1 : World} {B off : Nat} {ys : List Int} (h : Fld w) (g : Turn B off ys w w1) (hB : NoTab B) : Fld w1 := by
  have k : ∀ i, w1.cell? ⟨0, i, none⟩ = w.cell? ⟨0, i, none⟩ := fun i => by
    simp [World.cell?, g.block _ h.lt hB.1]
  have kz : ∀ i, w1.cell? ⟨2, i, none⟩ = w.cell? ⟨2, i, none⟩ := fun i => by
    simp [World.cell?, g.block _ h.zl hB.2]
  exact ⟨(k _).trans h.a0, (k _).trans h.a1, (k _).trans h.a2, (k _).trans h.a3, (let ⟨a, n, c, e⟩ := h.a4; ⟨a, n, c, (k _).trans e⟩),
    (k _).trans h.b0, (k _).trans h.b1, (k _).trans h.b2, (k _).trans h.b3, (let ⟨a, n, c, e⟩ := h.b4; ⟨a, n, c, (k _).trans e⟩),
    (k _).trans h.d0, (k _).trans h.d1, (k _).trans h.d2, (k _).trans h.d3, (let ⟨a, n, c, e⟩ := h.d4; ⟨a, n, c, (k _).trans e⟩),
    (k _).trans h.e0, (k _).trans h.e1, (k _).trans h.e2, (k _).trans h.e3, (let ⟨a, n, c, e⟩ := h.e4; ⟨a, n, c, (k _).trans e⟩), Nat.lt_of_lt_of_le h.lt g.size, fun i hi => (kz i).trans (h.z i hi), Nat.lt_of_lt_of_le h.zl g.size⟩
theorem Turn.low {w w1 w2 : World} {B off n : Nat} {l lo : List Int} (h : Turn B off l w w1) (g : Turn B off lo w1 w2) (hn : l.length = n) (h1 : lo.length = n / 2) (h2 : 2 ≤ n) : Turn B off (lo ++ l.drop (n / 2)) w w2 := by
  refine h.sub (d := 0) g (by omega) (by simp; omega) fun i hi => ?_
  simp only [bco, List.getD, List.getElem?_append, List.getElem?_drop]
  by_cases q : i < lo.length
  · rw [if_pos q, if_pos ⟨Nat.zero_le _, by omega⟩, Nat.sub_zero]
  · rw [if_neg q, if_neg (by omega), show n / 2 + (i - lo.length) = i by omega]
theorem Turn.high {w w1 w2 : World} {B off n : Nat} {l lo hi : List Int} (h : Turn B off (lo ++ l.drop (n / 2)) w w1) (g : Turn B (off + n / 2) hi w1 w2) (hn : l.length = n) (h1 : lo.length = n / 2) (h2 : hi.length = n - n / 2) : Turn B off (lo ++ hi) w w2 := by
  refine h.sub (d := n / 2) g (by simp; omega) (by simp; omega) fun i hi' => ?_
  simp only [bco, List.getD, List.getElem?_append]
  simp at hi'
  by_cases q : i < lo.length
  · rw [if_pos q, if_neg (by omega), if_pos q]
  · rw [if_neg q, if_pos (by omega), h1]
theorem bco_right {lo hi : List Int} {m i : Nat} (h : lo.length = m) : bco hi i = bco (lo ++ hi) (m + i) := by
  simp only [bco, List.getD, List.getElem?_append]
  rw [if_neg (by omega), show m + i - lo.length = i by omega]
theorem bco_left {lo hi : List Int} {i : Nat} (h : i < lo.length) : bco lo i = bco (lo ++ hi) i := by
  simp only [bco, List.getD, List.getElem?_append]
  rw [if_pos h]
theorem low_cell {w w1 : World} {B off i m : Nat} {lo hi : List Int} (T : Turn B off (lo ++ hi) w w1) (h : lo.length = m) (hi' : i < m) : w1.cell? ⟨B, off + i, none⟩ = some (.int .u64 (bco lo i)) := by
  rw [bco_left (hi := hi) (by omega)]
  exact T.now.cell (by simp; omega)
theorem Part.frozen {w : World} {B off : Nat} {xs : List Int} (h : Part w B off xs) (j : Nat) : w.frozen? ⟨B, j, none⟩ = false := by
  obtain ⟨cs, t, h1, _⟩ := h
  simp [World.frozen?, h1]
theorem Turn.put2 {w w1 : World} {B off m : Nat} {xs : List Int} (h : Turn B off xs w w1) {i : Nat} (hi : m + i < xs.length) (v : Int) : Turn B off (xs.set (m + i) v) w (w1.setCell ⟨B, off + m + i, none⟩ (.int .u64 v)) := by
  rw [Nat.add_assoc]; exact h.put hi v
theorem set_two {lo hi : List Int} {m i : Nat} {x y : Int} (h : lo.length = m) (hi' : i < m) : ((lo ++ hi).set i x).set (m + i) y = lo.set i x ++ hi.set i y := by
  rw [List.set_append_left _ _ (by omega), List.set_append_right _ _ (by simp; omega)]
  congr 2
  simp; omega
theorem high_cell {w w1 : World} {B off i m : Nat} {lo hi : List Int} (T : Turn B off (lo ++ hi) w w1) (h : lo.length = m) (hi' : i < hi.length) : w1.cell? ⟨B, off + m + i, none⟩ = some (.int .u64 (bco hi i)) := by
  rw [bco_right (lo := lo) h, Nat.add_assoc]
  exact T.now.cell (by simp; omega)
section
open Go.Proofs.YthinfmfjpaikiaaDoorW.PrintWords
theorem encs_co {xs : List Int} {i : Nat} (hi : i < xs.length) : (encs (Value.int .u64) xs)[i]? = some (.int .u64 (bco xs i)) := by
  simp [encs, bco, List.getD, hi]
theorem R_part {e base : Nat} {ok : Nat → Prop} {w : World} {B n c : Nat} {xs : List Int} (h : (Kd.int .u64).R e w base ok (.slice (some ⟨B, 0, none⟩) n c) xs) : Part w B 0 xs ∧ xs.length = n ∧ n ≤ c ∧ c ≤ maxLen ∧ base ≤ B := by
  have ho := Kd.own_of_R (enc := Value.int .u64) (h1 := fun _ => rfl) h
  obtain ⟨h1, h2⟩ := ho
  rcases h2 with ⟨h2, _⟩ | ⟨g, cap, cur, h2, hb, hh, hn, hm, hs, ht⟩
  · simp at h2
  · simp only [Value.slice.injEq, Option.some.injEq, Addr.mk.injEq, and_true] at h2
    obtain ⟨rfl, rfl, rfl⟩ := h2
    refine ⟨⟨cur, e, hh, by omega, fun i hi => ?_⟩, rfl, hn, hm, hb⟩
    have := encs_co hi
    rw [← ht, List.getElem?_take, if_pos (by omega), Array.getElem?_toList] at this
    rw [Nat.zero_add]
    exact this
theorem R_turn {e base : Nat} {ok : Nat → Prop} {w w1 : World} {B n c : Nat} {xs ys : List Int} (h : (Kd.int .u64).R e w base ok (.slice (some ⟨B, 0, none⟩) n c) xs) (T : Turn B 0 ys w w1) (hl : ys.length = xs.length) : (Kd.int .u64).R e w1 base ok (.slice (some ⟨B, 0, none⟩) n c) ys := by
  have hok := h.1
  have ho := Kd.own_of_R (enc := Value.int .u64) (h1 := fun _ => rfl) h
  refine Kd.R_of_own (enc := Value.int .u64) (h1 := fun _ => rfl) ?_ hok
  obtain ⟨h1, h2⟩ := ho
  rcases h2 with ⟨h2, _⟩ | ⟨g, cap, cur, h2, hb, hh, hn, hm, hs, ht⟩
  · simp at h2
  · simp only [Value.slice.injEq, Option.some.injEq, Addr.mk.injEq, and_true] at h2
    obtain ⟨rfl, rfl, rfl⟩ := h2
    obtain ⟨cs, cs', t, g1, g2, g3, g4, g5, g6⟩ := T.part
    have e1 := hh.symm.trans g1
    simp only [Option.some.injEq, Obj.cells.injEq] at e1
    obtain ⟨rfl, rfl, _⟩ := e1
    refine ⟨by simp [encs], .inr ⟨B, c, cs', by rw [hl], hb, g2, by omega, hm, by omega, ?_⟩⟩
    refine List.ext_getElem? fun i => ?_
    by_cases hi : i < ys.length
    · rw [encs_co hi, List.getElem?_take, if_pos (by omega), Array.getElem?_toList, ← g6 i hi, Nat.zero_add]
    · rw [List.getElem?_eq_none (by rw [List.length_take]; omega), List.getElem?_eq_none (by rw [encs_length]; omega)]
theorem Turn.belowB {B off base : Nat} {ys : List Int} {w w1 : World} (T : Turn B off ys w w1) (h : base ≤ B) : Below base w w1 := by
  have hB := T.lt
  exact ⟨T.os, T.tape, T.output, T.size, fun k hk => T.block k (by omega) (by omega)⟩
theorem Fld.notab {w : World} (h : Fld w) : ∀ B, w.heap.size ≤ B → NoTab B := fun B hB => ⟨by have := h.lt; omega, by have := h.zl; omega⟩
theorem Turn.grown {B off : Nat} {ys : List Int} {w w1 : World} (T : Turn B off ys w w1) : w.grownBy w1 (some B) := ⟨T.os, T.tape, T.output, T.size, fun k hk hn => T.block k hk (fun e => hn (by rw [e]))⟩
end
end Go.Proofs.YthinfmfjpaikiaaDoor

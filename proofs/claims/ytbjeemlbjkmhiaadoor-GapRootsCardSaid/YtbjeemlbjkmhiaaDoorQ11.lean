import Derived.Test.YtbjeemlbjkmhiaaDoorQ0
import Derived.Test.YtbjeemlbjkmhiaaDoorQ1
import Derived.Test.YtbjeemlbjkmhiaaDoorQ2
import Derived.Test.YtbjeemlbjkmhiaaDoorQ4
namespace Go.Proofs.YtbjeemlbjkmhiaaDoor.Q
open Go.RowKit Go.Proofs.YtbjeemlbjkmhiaaDoorW.PrintWords Go.Proofs.YtbjeemlbjkmhiaaDoorW.PrintLast Go.Proofs.YtbjeemlbjkmhiaaDoorW.PrintMore

attribute [local go_sem] max2_int min2_int max_two min_two max_three min_three max_four min_four   -- for this text's walks alone
set_option linter.unusedVariables false
set_option linter.unusedSimpArgs false

def gap_tuples.g (a0 : Int) (l1 l2 : List (List Int)) (wd : Int) : Option Int := (field_Valid.f a0).bind fun v => if v = true then (if a0 > 1 then some 2 else if (l1.length : Int) > 32 then some 3 else if (l2.length : Int) > 32 then some 3 else if wd > 8 then some 3 else some 0) else some 1
section
open Go.Shelf
attribute [local go_sem] Oper.semAt_some
theorem Fld.map {w W : World} (h : Fld w) (hk : ∀ (q : Addr) (v : Value), q.block = 0 ∨ q.block = 0 → w.cell? q = some v → W.cell? q = some v) (hs : w.heap.size ≤ W.heap.size) : Fld W := by
 have k : ∀ i v, w.cell? ⟨0, i, none⟩ = some v → W.cell? ⟨0, i, none⟩ = some v := fun i v => hk _ v (Or.inl rfl)
 exact ⟨k _ _ h.a0, k _ _ h.a1, k _ _ h.a2, k _ _ h.a3, (let ⟨a, n, c, e⟩ := h.a4; ⟨a, n, c, k _ _ e⟩), k _ _ h.b0, k _ _ h.b1, k _ _ h.b2, k _ _ h.b3, (let ⟨a, n, c, e⟩ := h.b4; ⟨a, n, c, k _ _ e⟩),
  k _ _ h.d0, k _ _ h.d1, k _ _ h.d2, k _ _ h.d3, (let ⟨a, n, c, e⟩ := h.d4; ⟨a, n, c, k _ _ e⟩), k _ _ h.e0, k _ _ h.e1, k _ _ h.e2, k _ _ h.e3, (let ⟨a, n, c, e⟩ := h.e4; ⟨a, n, c, k _ _ e⟩), Nat.lt_of_lt_of_le h.lt hs⟩
theorem Fld.grown {w W : World} {row : Option Nat} (h : Fld w) (hg : w.grownBy W row) (hr : ∀ r, row = some r → ∃ o : Obj, w.heap[r]? = some o ∧ o.isCells = false) : Fld W := Fld.map h (fun _ _ _ hc => cell_kept hc hg hr) hg.size
def KN (nb B : Nat) (W W' : World) : Prop := KC nb W W' ∧ KeepsFrom B W W'
theorem KN.trans {nb B : Nat} {X Y Z : World} (h : KN nb B X Y) (k : KN nb B Y Z) : KN nb B X Z := ⟨h.1.trans k.1, Nat.le_trans h.2.size k.2.size, fun b o hb ho hc => k.2.same b o hb (h.2.same b o hb ho hc) hc⟩
theorem KN.put {nb : Nat} {w W : World} {l : Nat} {o : Obj} (o' : Obj) (hl : l < w.heap.size + 2) (ho : W.heap[l]? = some o) (hc : o.isCells = false) : KN nb (w.heap.size + 2) W (W.putObj l o') :=
 ⟨KC.putObj W o' ho hc, by simp [World.putObj], fun b p hb hp _ => (World.putObj_heap_other (by omega)).trans hp⟩

structure PB (J : Nat → World → Prop) (yb B l : Nat) (f : Int) (t : Nat) (W : World) : Prop where
 J : J t W
 y : W.heap[yb]? = some (.cells #[.func (.yield l) #[] #[]] 120 (0, 0))
 b : W.heap[B]? = some (.cells #[.int .i64 f] 3 (0, 0))
 fld : Fld W
theorem PB.own {J : Nat → World → Prop} {yb B l : Nat} {f : Int} {s : Nat} (hJ : OwnFrom s J) {s' : Nat} (hs : s ≤ s') : OwnFrom s' (PB J yb B l f) := fun t X Y row h hg hr => by
 have hne : ∀ {b : Nat} {c : Array Value} {t : TypeId} {g : Nat × Nat}, X.heap[b]? = some (.cells c t g) → some b ≠ row := by
  intro b c t g hb e
  obtain ⟨_, o, ho, hc⟩ := hr b e.symm
  rw [hb] at ho
  cases ho
  simp [Obj.isCells] at hc
 exact ⟨hJ t X Y row h.J hg fun r e => ⟨Nat.le_trans hs (hr r e).1, (hr r e).2⟩, blk_grown h.y hg (hne h.y), blk_grown h.b hg (hne h.b), Fld.grown h.fld hg fun r e => (hr r e).2⟩
theorem PB.below {J : Nat → World → Prop} {yb B l : Nat} {f : Int} {t s : Nat} {X Y : World} (h : PB J yb B l f t X) (hJ : OwnFrom s J) (hb : Below X.heap.size X Y) : PB J yb B l f t Y :=
 ⟨own_below hJ h.J hb, blk_below h.y hb, blk_below h.b hb, h.fld.below hb⟩
end

def gap_product.l0 : Nat → Int → Int → List Int → Int → Int → Option (Int)
 | 0, _, _, _, _, _ => none
 | k + 1, x0, x5, x8, x9, x10 => if x10 < x9 then (if 0 ≤ x10 then (if x10 < (x8.length : Int) then ((field_Mul.f x0 x5 (rd x8 x10)).bind fun t892 => (gap_product.l0 k x0 t892 x8 x9 (wrap64 (x10 + 1)))) else (none)) else (none)) else (some x5)
def gap_product.f (k : Nat) (a0 : Int) (l1 : List Int) : Option (Int) := gap_product.l0 k a0 1 l1 (l1.length : Int) 0
def gap_values.l0 : Nat → Int → Int → Int → List Int → List (List Int) → Int → Int → Option (List Int)
 | 0, _, _, _, _, _, _, _ => none
 | k + 1, x0, x2, x3, x9, x15, x16, x17 => if x17 < x16 then (if 0 ≤ x17 then (if x17 < (x15.length : Int) then ((poly_Eval.f k x0 (rd_L3 x15 x17) x3).bind fun t897 => ((field_Add.f x0 x2 t897).bind fun t898 => (if x17 < (x9.length : Int) then (gap_values.l0 k x0 x2 x3 (x9.set (x17 : Int).toNat t898) x15 x16 (wrap64 (x17 + 1))) else (none)))) else (none)) else (none)) else (some x9)
def gap_values.f (k : Nat) (a0 : Int) (l1 : List (List Int)) (a2 : Int) (a3 : Int) : Option (List Int) := if 0 ≤ (l1.length : Int) then (if ((l1.length : Int) : Int).toNat ≤ 35184372088832 then (gap_values.l0 k a0 a2 a3 (List.replicate ((l1.length : Int) : Int).toNat 0) l1 (l1.length : Int) 0) else (none)) else (none)
end Go.Proofs.YtbjeemlbjkmhiaaDoor.Q

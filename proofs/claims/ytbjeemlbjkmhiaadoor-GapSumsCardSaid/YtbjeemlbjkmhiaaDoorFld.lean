/- What the package-level table of the four fields holds, as one fact of a world, how it stays true as memory grows, and the contracts of the functions that read it. -/
import Derived.Test.YtbjeemlbjkmhiaaDoorProg
import Derived.Test.YtbjeemlbjkmhiaaDoorAid
import Derived.Below
import Derived.WalkKit
import Derived.KernelRfl
import Derived.OwnWalk
import Derived.Tactics
import Derived.Deep.Draws
namespace Go.Proofs.YtbjeemlbjkmhiaaDoor
open Go.RowKit

structure Fld (w : World) : Prop where
  a0 : w.cell? ⟨0, 0, none⟩ = some (.int .u64 97)
  a1 : w.cell? ⟨0, 1, none⟩ = some (.int .u64 5)
  a2 : w.cell? ⟨0, 2, none⟩ = some (.int .i64 5)
  a3 : w.cell? ⟨0, 3, none⟩ = some (.int .i64 5)
  a4 : ∃ a n c, w.cell? ⟨0, 4, none⟩ = some (.slice a n c)
  b0 : w.cell? ⟨0, 5, none⟩ = some (.int .u64 257)
  b1 : w.cell? ⟨0, 6, none⟩ = some (.int .u64 3)
  b2 : w.cell? ⟨0, 7, none⟩ = some (.int .i64 8)
  b3 : w.cell? ⟨0, 8, none⟩ = some (.int .i64 3)
  b4 : ∃ a n c, w.cell? ⟨0, 9, none⟩ = some (.slice a n c)
  d0 : w.cell? ⟨0, 10, none⟩ = some (.int .u64 12289)
  d1 : w.cell? ⟨0, 11, none⟩ = some (.int .u64 11)
  d2 : w.cell? ⟨0, 12, none⟩ = some (.int .i64 12)
  d3 : w.cell? ⟨0, 13, none⟩ = some (.int .i64 5)
  d4 : ∃ a n c, w.cell? ⟨0, 14, none⟩ = some (.slice a n c)
  e0 : w.cell? ⟨0, 15, none⟩ = some (.int .u64 998244353)
  e1 : w.cell? ⟨0, 16, none⟩ = some (.int .u64 3)
  e2 : w.cell? ⟨0, 17, none⟩ = some (.int .i64 23)
  e3 : w.cell? ⟨0, 18, none⟩ = some (.int .i64 3)
  e4 : ∃ a n c, w.cell? ⟨0, 19, none⟩ = some (.slice a n c)
  lt : 0 < w.heap.size

theorem Fld.below {w W : World} (h : Fld w) (hb : Below w.heap.size w W) : Fld W := by
  have k : ∀ i, W.cell? ⟨0, i, none⟩ = w.cell? ⟨0, i, none⟩ := fun i => hb.cell (p := ⟨0, i, none⟩) h.lt
  exact ⟨(k _).trans h.a0, (k _).trans h.a1, (k _).trans h.a2, (k _).trans h.a3, (let ⟨a, n, c, e⟩ := h.a4; ⟨a, n, c, (k _).trans e⟩),
    (k _).trans h.b0, (k _).trans h.b1, (k _).trans h.b2, (k _).trans h.b3, (let ⟨a, n, c, e⟩ := h.b4; ⟨a, n, c, (k _).trans e⟩),
    (k _).trans h.d0, (k _).trans h.d1, (k _).trans h.d2, (k _).trans h.d3, (let ⟨a, n, c, e⟩ := h.d4; ⟨a, n, c, (k _).trans e⟩),
    (k _).trans h.e0, (k _).trans h.e1, (k _).trans h.e2, (k _).trans h.e3, (let ⟨a, n, c, e⟩ := h.e4; ⟨a, n, c, (k _).trans e⟩), Nat.lt_of_lt_of_le h.lt hb.size⟩
theorem Fld.alloc {W : World} (h : Fld W) (o : Obj) : Fld (W.alloc o) := h.below ((Below.refl _ _).alloc (Nat.le_refl _) o)
theorem Fld.drew {W : World} (h : Fld W) : Fld W.drew := ⟨h.a0, h.a1, h.a2, h.a3, h.a4, h.b0, h.b1, h.b2, h.b3, h.b4, h.d0, h.d1, h.d2, h.d3, h.d4, h.e0, h.e1, h.e2, h.e3, h.e4, h.lt⟩
theorem Fld.drewN {W : World} (h : Fld W) (m : Nat) : Fld (W.drewN m) := ⟨h.a0, h.a1, h.a2, h.a3, h.a4, h.b0, h.b1, h.b2, h.b3, h.b4, h.d0, h.d1, h.d2, h.d3, h.d4, h.e0, h.e1, h.e2, h.e3, h.e4, h.lt⟩

theorem fU_ {w W W' : World} [h : Up W W'] (f : Fld w) (g : Below w.heap.size w W) : Fld W' := f.below (bU_ g)

def pOf (f : Int) : Int := if f = 0 then 97 else if f = 1 then 257 else if f = 2 then 12289 else if f = 3 then 998244353 else 0
def gOf (f : Int) : Int := if f = 0 then 5 else if f = 1 then 3 else if f = 2 then 11 else if f = 3 then 3 else 0
def tOf (f : Int) : Int := if f = 0 then 5 else if f = 1 then 8 else if f = 2 then 12 else if f = 3 then 23 else 0
def xOf (f : Int) : Int := if f = 0 then 5 else if f = 1 then 3 else if f = 2 then 5 else if f = 3 then 3 else 0

def OfIs (f : Int) (w : World) (e : Ending) (w' : World) : Prop := ∃ (a : Option Addr) (n c : Nat), e = .returned (.agg #[.int .u64 (pOf f), .int .u64 (gOf f), .int .i64 (tOf f), .int .i64 (xOf f), .slice a n c]) ∧ Below w.heap.size w w'

theorem of_bad (f : Int) (w : World) (h : f < 0 ∨ 4 ≤ f) : Calls Tryd.prog 97 #[.int .i64 f] w (OfIs f w) := by
  have hp : pOf f = 0 ∧ gOf f = 0 ∧ tOf f = 0 ∧ xOf f = 0 := by
    have n0 : ¬ f = 0 := by omega
    have n1 : ¬ f = 1 := by omega
    have n2 : ¬ f = 2 := by omega
    have n3 : ¬ f = 3 := by omega
    unfold pOf gOf tOf xOf
    simp only [if_neg n0, if_neg n1, if_neg n2, if_neg n3, and_self]
  have fin : ∀ w', Below w.heap.size w w' → OfIs f w (.returned (.agg #[.int .u64 0, .int .u64 0, .int .i64 0, .int .i64 0, .slice none 0 0])) w' := by
    intro w' hb
    exact ⟨none, 0, 0, by rw [hp.1, hp.2.1, hp.2.2.1, hp.2.2.2], hb⟩
  have FIN := fin
  clear hp fin
  rcases h with h | h
  · have h1 : decide (0 ≤ f) = false := by simpa using h
    go_enter Tryd.func97, Tryd.ntmps97
    go_wp2
    exact bodyPost_ret (v := .agg #[.int .u64 0, .int .u64 0, .int .i64 0, .int .i64 0, .slice none 0 0]) (by simp [results, Tryd.results97, go_sem]) rfl (FIN _ (by repeat (first | exact Below.refl _ _ | exact Nat.le_refl _ | refine Below.alloc ?_ ?_ _ | refine Below.setCell ?_ ?_ _ | (simp; done) | omega)))
  · have h1 : decide (f < 4) = false := by simpa using h
    have h2 : decide (0 ≤ f) = true := by simp; omega
    go_enter Tryd.func97, Tryd.ntmps97
    go_wp2
    exact bodyPost_ret (v := .agg #[.int .u64 0, .int .u64 0, .int .i64 0, .int .i64 0, .slice none 0 0]) (by simp [results, Tryd.results97, go_sem]) rfl (FIN _ (by repeat (first | exact Below.refl _ _ | exact Nat.le_refl _ | refine Below.alloc ?_ ?_ _ | refine Below.setCell ?_ ?_ _ | (simp; done) | omega)))

theorem of_any (f : Int) (w : World) (hG : Fld w) : Calls Tryd.prog 97 #[.int .i64 f] w (OfIs f w) := by
  by_cases hb : f < 0 ∨ 4 ≤ f
  · exact of_bad f w hb
  · obtain ⟨a0, a1, a2, a3, ⟨ra, na, ca, a4⟩, b0, b1, b2, b3, ⟨rb, nb, cb, b4⟩, d0, d1, d2, d3, ⟨rd, nd, cd, d4⟩, e0, e1, e2, e3, ⟨re, ne, ce, e4⟩, lt⟩ := hG
    have hc : f = 0 ∨ f = 1 ∨ f = 2 ∨ f = 3 := by omega
    clear hb
    rcases hc with rfl | rfl | rfl | rfl
    · clear b0 b1 b2 b3 b4 d0 d1 d2 d3 d4 e0 e1 e2 e3 e4
      have fin : ∀ w', Below w.heap.size w w' → OfIs 0 w (.returned (.agg #[.int .u64 97, .int .u64 5, .int .i64 5, .int .i64 5, .slice ra na ca])) w' := fun w' hb => ⟨ra, na, ca, rfl, hb⟩
      go_enter Tryd.func97, Tryd.ntmps97
      go_wp2
      exact bodyPost_ret (v := .agg #[.int .u64 97, .int .u64 5, .int .i64 5, .int .i64 5, .slice ra na ca]) (by simp [results, Tryd.results97, go_sem]) rfl (fin _ (by repeat (first | exact Below.refl _ _ | exact Nat.le_refl _ | refine Below.alloc ?_ ?_ _ | refine Below.setCell ?_ ?_ _ | (simp; done) | omega)))
    · clear a0 a1 a2 a3 a4 d0 d1 d2 d3 d4 e0 e1 e2 e3 e4
      have fin : ∀ w', Below w.heap.size w w' → OfIs 1 w (.returned (.agg #[.int .u64 257, .int .u64 3, .int .i64 8, .int .i64 3, .slice rb nb cb])) w' := fun w' hb => ⟨rb, nb, cb, rfl, hb⟩
      go_enter Tryd.func97, Tryd.ntmps97
      go_wp2
      exact bodyPost_ret (v := .agg #[.int .u64 257, .int .u64 3, .int .i64 8, .int .i64 3, .slice rb nb cb]) (by simp [results, Tryd.results97, go_sem]) rfl (fin _ (by repeat (first | exact Below.refl _ _ | exact Nat.le_refl _ | refine Below.alloc ?_ ?_ _ | refine Below.setCell ?_ ?_ _ | (simp; done) | omega)))
    · clear b0 b1 b2 b3 b4 a0 a1 a2 a3 a4 e0 e1 e2 e3 e4
      have fin : ∀ w', Below w.heap.size w w' → OfIs 2 w (.returned (.agg #[.int .u64 12289, .int .u64 11, .int .i64 12, .int .i64 5, .slice rd nd cd])) w' := fun w' hb => ⟨rd, nd, cd, rfl, hb⟩
      go_enter Tryd.func97, Tryd.ntmps97
      go_wp2
      exact bodyPost_ret (v := .agg #[.int .u64 12289, .int .u64 11, .int .i64 12, .int .i64 5, .slice rd nd cd]) (by simp [results, Tryd.results97, go_sem]) rfl (fin _ (by repeat (first | exact Below.refl _ _ | exact Nat.le_refl _ | refine Below.alloc ?_ ?_ _ | refine Below.setCell ?_ ?_ _ | (simp; done) | omega)))
    · clear b0 b1 b2 b3 b4 d0 d1 d2 d3 d4 a0 a1 a2 a3 a4
      have fin : ∀ w', Below w.heap.size w w' → OfIs 3 w (.returned (.agg #[.int .u64 998244353, .int .u64 3, .int .i64 23, .int .i64 3, .slice re ne ce])) w' := fun w' hb => ⟨re, ne, ce, rfl, hb⟩
      go_enter Tryd.func97, Tryd.ntmps97
      go_wp2
      exact bodyPost_ret (v := .agg #[.int .u64 998244353, .int .u64 3, .int .i64 23, .int .i64 3, .slice re ne ce]) (by simp [results, Tryd.results97, go_sem]) rfl (fin _ (by repeat (first | exact Below.refl _ _ | exact Nat.le_refl _ | refine Below.alloc ?_ ?_ _ | refine Below.setCell ?_ ?_ _ | (simp; done) | omega)))

theorem fld0 (a b c d : Int) (ra : Option Addr) (na ca : Nat) (W : World) : Sem.run Tryd.prog (Instr.field 113 (.agg #[.int .u64 a, .int .u64 b, .int .i64 c, .int .i64 d, .slice ra na ca]) 0) W = .ok (.int .u64 a) W := by kernel_rfl
end Go.Proofs.YtbjeemlbjkmhiaaDoor

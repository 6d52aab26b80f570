import Derived.Test.YtbjeemlbjkmhiaaDoorQ0
import Derived.Test.YtbjeemlbjkmhiaaDoorQ2
import Derived.Test.YtbjeemlbjkmhiaaDoorQ4
import Derived.Test.YtbjeemlbjkmhiaaDoorQ11
import Derived.Test.YtbjeemlbjkmhiaaDoorQ12
namespace Go.Proofs.YtbjeemlbjkmhiaaDoor.Q
open Go.RowKit Go.Proofs.YtbjeemlbjkmhiaaDoorW.PrintWords Go.Proofs.YtbjeemlbjkmhiaaDoorW.PrintLast Go.Proofs.YtbjeemlbjkmhiaaDoorW.PrintMore

attribute [local go_sem] max2_int min2_int max_two min_two max_three min_three max_four min_four   -- for this text's walks alone
set_option linter.unusedVariables false
set_option linter.unusedSimpArgs false

def field_Sum.l0 : Nat → Int → Int → List Int → Int → Int → Option (Int)
 | 0, _, _, _, _, _ => none
 | k + 1, x0, x5, x8, x9, x10 => if x10 < x9 then (if 0 ≤ x10 then (if x10 < (x8.length : Int) then ((field_Add.f x0 x5 (rd x8 x10)).bind fun t939 => (field_Sum.l0 k x0 t939 x8 x9 (wrap64 (x10 + 1)))) else (none)) else (none)) else (some x5)
def field_Sum.f (k : Nat) (a0 : Int) (l1 : List Int) : Option (Int) := field_Sum.l0 k a0 0 l1 (l1.length : Int) 0
mutual
def field_Inv.j0 : Nat → Int → Int → Bool → Option (Int)
 | 0, _, _, _ => none
 | k + 1, x1, x5, x20 => if x20 = true then (some 0) else (if x5 = 0 then (none) else (field_Inv.l0 k x5 (wrap64 (x5)) (wrap64 (Int.tmod x1 x5)) 0 1))
def field_Inv.l0 : Nat → Int → Int → Int → Int → Int → Option (Int)
 | 0, _, _, _, _, _ => none
 | k + 1, x5, x6, x7, x8, x9 => if x7 = 0 then (if x8 < 0 then (some (IntKind.u64.wrap (wrap64 (x8 + (wrap64 (x5)))))) else (some (IntKind.u64.wrap (x8)))) else (field_Inv.l0 k x5 x7 (wrap64 (x6 - (wrap64 ((wrap64 (Int.tdiv x6 x7)) * x7)))) x9 (wrap64 (x8 - (wrap64 ((wrap64 (Int.tdiv x6 x7)) * x9)))))
end
def field_Inv.f (k : Nat) (a0 : Int) (a1 : Int) : Option (Int) := (field_P.f a0).bind fun t940 => (if t940 = 0 then (field_Inv.j0 k a1 t940 true) else (field_Inv.j0 k a1 t940 ((Int.tmod a1 t940) == 0)))
mutual
def field_Inverses.l0 : Nat → Int → List Int → Int → List Int → Int → Int → Int → Option (List Int)
 | 0, _, _, _, _, _, _, _ => none
 | k + 1, x0, x1, x5, x6, x7, x20, x21 => if x21 < x20 then (if 0 ≤ x21 then (if x21 < (x6.length : Int) then ((some (x6.set (x21 : Int).toNat x7 : List Int)).bind fun y945 => (if x21 < (x1.length : Int) then (if x5 = 0 then (none) else (if (Int.tmod (rd x1 x21) x5) = 0 then (field_Inverses.l0 k x0 x1 x5 y945 x7 x20 (wrap64 (x21 + 1))) else ((field_Mul.f x0 x7 (rd x1 x21)).bind fun t948 => (field_Inverses.l0 k x0 x1 x5 y945 t948 x20 (wrap64 (x21 + 1)))))) else (none))) else (none)) else (none)) else ((field_Inv.f k x0 x7).bind fun t949 => (field_Inverses.l1 k x0 x1 x5 x6 t949 (x1.length : Int) 0))
def field_Inverses.l1 : Nat → Int → List Int → Int → List Int → Int → Int → Int → Option (List Int)
 | 0, _, _, _, _, _, _, _ => none
 | k + 1, x0, x1, x5, x6, x9, x47, x48 => if x48 < x47 then (if 0 ≤ (wrap64 ((wrap64 ((x1.length : Int) - 1)) - x48)) then (if (wrap64 ((wrap64 ((x1.length : Int) - 1)) - x48)) < (x1.length : Int) then (if x5 = 0 then (none) else (if (Int.tmod (rd x1 (wrap64 ((wrap64 ((x1.length : Int) - 1)) - x48))) x5) = 0 then (if (wrap64 ((wrap64 ((x1.length : Int) - 1)) - x48)) < (x6.length : Int) then (field_Inverses.l1 k x0 x1 x5 (x6.set ((wrap64 ((wrap64 ((x1.length : Int) - 1)) - x48)) : Int).toNat 0) x9 x47 (wrap64 (x48 + 1))) else (none)) else (if (wrap64 ((wrap64 ((x1.length : Int) - 1)) - x48)) < (x6.length : Int) then ((field_Mul.f x0 (rd x6 (wrap64 ((wrap64 ((x1.length : Int) - 1)) - x48))) x9).bind fun t953 => ((field_Mul.f x0 x9 (rd x1 (wrap64 ((wrap64 ((x1.length : Int) - 1)) - x48)))).bind fun t956 => (field_Inverses.l1 k x0 x1 x5 (x6.set ((wrap64 ((wrap64 ((x1.length : Int) - 1)) - x48)) : Int).toNat t953) t956 x47 (wrap64 (x48 + 1))))) else (none)))) else (none)) else (none)) else (some x6)
end
def field_Inverses.f (k : Nat) (a0 : Int) (l1 : List Int) : Option (List Int) := (field_P.f a0).bind fun t941 => (if t941 = 0 then (some ([] : List Int)) else (if 0 ≤ (l1.length : Int) then (if ((l1.length : Int) : Int).toNat ≤ 35184372088832 then (field_Inverses.l0 k a0 l1 t941 (List.replicate ((l1.length : Int) : Int).toNat 0) 1 (l1.length : Int) 0) else (none)) else (none)))
def field_Dot.l0 : Nat → Int → List Int → List Int → Int → Int → Int → Option (Int)
 | 0, _, _, _, _, _, _ => none
 | k + 1, x0, x1, x2, x7, x13, x14 => if x14 < x13 then (if 0 ≤ x14 then (if x14 < (x1.length : Int) then (if x14 < (x2.length : Int) then ((field_Mul.f x0 (rd x1 x14) (rd x2 x14)).bind fun t959 => ((field_Add.f x0 x7 t959).bind fun t960 => (field_Dot.l0 k x0 x1 x2 t960 x13 (wrap64 (x14 + 1))))) else (none)) else (none)) else (none)) else (some x7)
def field_Dot.f (k : Nat) (a0 : Int) (l1 : List Int) (l2 : List Int) : Option (Int) := field_Dot.l0 k a0 l1 l2 0 (mn (l1.length : Int) (l2.length : Int)) 0
section
open Go.Shelf
attribute [local go_sem] Oper.semAt_some
def gap_Found.l0 (k : Nat) (f : Int) (p : Nat) (l1 l2 : List (List Int)) (l3 : List Int) : List Nat → Int → Option Int
 | [], n => some n
 | t :: ts, n => (gap_values.f k f l1 ((t / p : Nat) : Int) ((t % p : Nat) : Int)).bind fun u => (gap_values.f k f l2 ((t / p : Nat) : Int) ((t % p : Nat) : Int)).bind fun v => (gap_product.f k f u).bind fun x => if x = 0 then gap_Found.l0 k f p l1 l2 l3 ts n else (gap_product.f k f v).bind fun y => if y = 0 then gap_Found.l0 k f p l1 l2 l3 ts n else
  (field_Inverses.f k f u).bind fun iu => (field_Sum.f k f iu).bind fun s => (field_Inverses.f k f v).bind fun iv => (field_Dot.f k f l3 iv).bind fun d => gap_Found.l0 k f p l1 l2 l3 ts (if s = d then wrap64 (n + 1) else n)
structure FB (k : Nat) (a0 : Int) (p : Nat) (A1 : Option Addr) (c1 : Nat) (l1 : List (List Int)) (A2 : Option Addr) (c2 : Nat) (l2 : List (List Int)) (A3 : Option Addr) (c3 : Nat) (l3 : List Int) (r : Int) (w : World) (nb : Nat) (xs : List Nat) (n : Int) (W : World) : Prop where
 on : gap_Found.l0 k a0 p l1 l2 l3 xs n = some r
 bf : W.heap[w.heap.size]? = some (.cells #[.int .i64 a0] 3 (0, 0))
 bl : W.heap[w.heap.size + 1]? = some (.cells #[.slice A1 l1.length c1] 42 (0, 0))
 br : W.heap[w.heap.size + 1 + 1]? = some (.cells #[.slice A2 l2.length c2] 42 (0, 0))
 bc : W.heap[w.heap.size + 1 + 1 + 1]? = some (.cells #[.slice A3 l3.length c3] 35 (0, 0))
 bn : W.heap[nb]? = some (.cells #[.int .i64 n] 3 (0, 0))
 bel : Below w.heap.size w W
section
variable {k : Nat} {a0 : Int} {p : Nat} {A1 : Option Addr} {c1 : Nat} {l1 : List (List Int)} {A2 : Option Addr} {c2 : Nat} {l2 : List (List Int)} {A3 : Option Addr} {c3 : Nat} {l3 : List Int} {r : Int} {w : World} {nb : Nat} {xs : List Nat} {n : Int} {W W' : World}
theorem FB.below (h : FB k a0 p A1 c1 l1 A2 c2 l2 A3 c3 l3 r w nb xs n W) (hb : Below W.heap.size W W') : FB k a0 p A1 c1 l1 A2 c2 l2 A3 c3 l3 r w nb xs n W' := ⟨h.on, blk_below h.bf hb, blk_below h.bl hb, blk_below h.br hb, blk_below h.bc hb, blk_below h.bn hb, below_step h.bel hb⟩
theorem FB.own (s : Nat) (hs : w.heap.size ≤ s) (F : Nat → List Nat) : OwnFrom s (fun (i : Nat) W => ∃ n, FB k a0 p A1 c1 l1 A2 c2 l2 A3 c3 l3 r w nb (F i) n W) := by
 rintro i X Y row ⟨n, h⟩ hg hr
 have hne : ∀ {b : Nat} {c : Array Value} {t : TypeId} {g : Nat × Nat}, X.heap[b]? = some (.cells c t g) → some b ≠ row := by
  intro b c t g hb e
  obtain ⟨_, o, ho, hc⟩ := hr b e.symm
  rw [hb] at ho
  cases ho
  simp [Obj.isCells] at hc
 exact ⟨n, h.on, blk_grown h.bf hg (hne h.bf), blk_grown h.bl hg (hne h.bl), blk_grown h.br hg (hne h.br), blk_grown h.bc hg (hne h.bc), blk_grown h.bn hg (hne h.bn), h.bel.grown hg h.bel.size fun b e => Nat.le_trans hs (hr b e).1⟩
theorem FB.put {ys : List Nat} (h : FB k a0 p A1 c1 l1 A2 c2 l2 A3 c3 l3 r w nb xs n W) (m : Int) (hon : gap_Found.l0 k a0 p l1 l2 l3 ys m = some r) (h1 : w.heap.size + 1 + 1 + 1 < nb) : FB k a0 p A1 c1 l1 A2 c2 l2 A3 c3 l3 r w nb ys m (W.setCell ⟨nb, 0, none⟩ (.int .i64 m)) :=
 ⟨hon, blk_far h.bf (p := ⟨nb, 0, none⟩) (by show w.heap.size ≠ nb; omega) _, blk_far h.bl (p := ⟨nb, 0, none⟩) (by show w.heap.size + 1 ≠ nb; omega) _, blk_far h.br (p := ⟨nb, 0, none⟩) (by show w.heap.size + 1 + 1 ≠ nb; omega) _, blk_far h.bc (p := ⟨nb, 0, none⟩) (by show w.heap.size + 1 + 1 + 1 ≠ nb; omega) _, blk_put (cs := #[.int .i64 n]) h.bn 0 _ rfl, below_set h.bel (by omega)⟩
end
end

end Go.Proofs.YtbjeemlbjkmhiaaDoor.Q

import Derived.Test.YtbjeemlbjkmhiaaDoorQ0
import Derived.Test.YtbjeemlbjkmhiaaDoorQ2
import Derived.Test.YtbjeemlbjkmhiaaDoorQ4
import Derived.Test.YtbjeemlbjkmhiaaDoorQ11
namespace Go.Proofs.YtbjeemlbjkmhiaaDoor.Q
open Go.RowKit Go.Proofs.YtbjeemlbjkmhiaaDoorW.PrintWords Go.Proofs.YtbjeemlbjkmhiaaDoorW.PrintLast Go.Proofs.YtbjeemlbjkmhiaaDoorW.PrintMore

attribute [local go_sem] max2_int min2_int max_two min_two max_three min_three max_four min_four   -- for this text's walks alone
set_option linter.unusedVariables false
set_option linter.unusedSimpArgs false

section
open Go.Shelf
attribute [local go_sem] Oper.semAt_some
theorem prs_at (p i : Nat) (h : i < (prs p).length) : (prs p)[i] = #[.int .u64 ((i / p : Nat) : Int), .int .u64 ((i % p : Nat) : Int)] := by simp [prs]
theorem prs_two (p : Nat) : ∀ x ∈ prs p, x.size = 2 := fun x hx => by obtain ⟨y, _, rfl⟩ := List.mem_map.1 hx; rfl
theorem pr_drop (n i : Nat) (h : i < n) : (List.range n).drop i = i :: (List.range n).drop (i + 1) := by rw [List.drop_eq_getElem_cons (by simpa using h), List.getElem_range]
def gap_Equal.l0 (k : Nat) (f : Int) (p : Nat) (l1 l2 : List (List Int)) : List Nat → Int → Option Int
 | [], n => some n
 | t :: ts, n => (gap_values.f k f l1 ((t / p : Nat) : Int) ((t % p : Nat) : Int)).bind fun u => (gap_product.f k f u).bind fun x => (gap_values.f k f l2 ((t / p : Nat) : Int) ((t % p : Nat) : Int)).bind fun v => (gap_product.f k f v).bind fun y => gap_Equal.l0 k f p l1 l2 ts (if x = y then wrap64 (n + 1) else n)
structure EB (k : Nat) (a0 : Int) (p : Nat) (A1 : Option Addr) (c1 : Nat) (l1 : List (List Int)) (A2 : Option Addr) (c2 : Nat) (l2 : List (List Int)) (r : Int) (w : World) (nb : Nat) (xs : List Nat) (n : Int) (W : World) : Prop where
 on : gap_Equal.l0 k a0 p l1 l2 xs n = some r
 bf : W.heap[w.heap.size]? = some (.cells #[.int .i64 a0] 3 (0, 0))
 bl : W.heap[w.heap.size + 1]? = some (.cells #[.slice A1 l1.length c1] 42 (0, 0))
 br : W.heap[w.heap.size + 1 + 1]? = some (.cells #[.slice A2 l2.length c2] 42 (0, 0))
 bn : W.heap[nb]? = some (.cells #[.int .i64 n] 3 (0, 0))
 bel : Below w.heap.size w W
section
variable {k : Nat} {a0 : Int} {p : Nat} {A1 : Option Addr} {c1 : Nat} {l1 : List (List Int)} {A2 : Option Addr} {c2 : Nat} {l2 : List (List Int)} {r : Int} {w : World} {nb : Nat} {xs : List Nat} {n : Int} {W W' : World}
theorem EB.below (h : EB k a0 p A1 c1 l1 A2 c2 l2 r w nb xs n W) (hb : Below W.heap.size W W') : EB k a0 p A1 c1 l1 A2 c2 l2 r w nb xs n W' := ⟨h.on, blk_below h.bf hb, blk_below h.bl hb, blk_below h.br hb, blk_below h.bn hb, below_step h.bel hb⟩
theorem EB.own (s : Nat) (hs : w.heap.size ≤ s) (F : Nat → List Nat) : OwnFrom s (fun (i : Nat) W => ∃ n, EB k a0 p A1 c1 l1 A2 c2 l2 r w nb (F i) n W) := by
 rintro i X Y row ⟨n, h⟩ hg hr
 have hne : ∀ {b : Nat} {c : Array Value} {t : TypeId} {g : Nat × Nat}, X.heap[b]? = some (.cells c t g) → some b ≠ row := by
  intro b c t g hb e
  obtain ⟨_, o, ho, hc⟩ := hr b e.symm
  rw [hb] at ho
  cases ho
  simp [Obj.isCells] at hc
 exact ⟨n, h.on, blk_grown h.bf hg (hne h.bf), blk_grown h.bl hg (hne h.bl), blk_grown h.br hg (hne h.br), blk_grown h.bn hg (hne h.bn), h.bel.grown hg h.bel.size fun b e => Nat.le_trans hs (hr b e).1⟩
theorem EB.put {ys : List Nat} (h : EB k a0 p A1 c1 l1 A2 c2 l2 r w nb xs n W) (m : Int) (hon : gap_Equal.l0 k a0 p l1 l2 ys m = some r) (h1 : w.heap.size + 1 + 1 < nb) : EB k a0 p A1 c1 l1 A2 c2 l2 r w nb ys m (W.setCell ⟨nb, 0, none⟩ (.int .i64 m)) :=
 ⟨hon, blk_far h.bf (p := ⟨nb, 0, none⟩) (by show w.heap.size ≠ nb; omega) _, blk_far h.bl (p := ⟨nb, 0, none⟩) (by show w.heap.size + 1 ≠ nb; omega) _, blk_far h.br (p := ⟨nb, 0, none⟩) (by show w.heap.size + 1 + 1 ≠ nb; omega) _, blk_put (cs := #[.int .i64 n]) h.bn 0 _ rfl, below_set h.bel (by omega)⟩
end
theorem P_range {f P : Int} (h : field_P.f f = some P) : 0 ≤ P ∧ P ≤ 4294967296 := by
 have hq : P = pOf f := by simpa [field_P.f] using h.symm
 rw [hq]
 unfold pOf
 repeat' split
 all_goals omega
end

end Go.Proofs.YtbjeemlbjkmhiaaDoor.Q

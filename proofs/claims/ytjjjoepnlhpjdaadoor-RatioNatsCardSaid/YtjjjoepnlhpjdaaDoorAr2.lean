/- Arrays of uint32 as variables in memory. -/
import Derived.Test.YtjjjoepnlhpjdaaDoorRat
import Derived.Test.YtjjjoepnlhpjdaaDoorProg
import Derived.Laws.Tables
import Derived.Laws.Rows
import Derived.Laws.CopyOwn
import Derived.Deep.WholeRow
import Derived.Great.Ranges
import Derived.ChangeKeysEq
import Derived.Laws.StructEq
namespace Go.Proofs.YtjjjoepnlhpjdaaDoor.Q
open Go.RowKit Go.Proofs.YtjjjoepnlhpjdaaDoorW.PrintWords Go.Proofs.YtjjjoepnlhpjdaaDoorW.PrintLast Go.Proofs.YtjjjoepnlhpjdaaDoorW.PrintMore
def bco (l : List Int) (i : Nat) : Int := l.getD i 0
def arC (l : List Int) : Array Value := (l.map (Value.int .u32)).toArray
def arW (k : IntKind) (l : List Int) : Value := .agg (l.map (Value.int k)).toArray
theorem arC_size (l : List Int) : (arC l).size = l.length := by simp [arC]
theorem arC_get {l : List Int} {i : Nat} (h : i < l.length) : (arC l)[i]? = some (.int .u32 (bco l i)) := by
  simp [arC, bco, List.getD, h]
def Arr (w : World) (B t : Nat) (l : List Int) : Prop := w.heap[B]? = some (.cells (arC l) t (0, 0))
section
variable {w w1 : World} {B t base : Nat} {l : List Int}
theorem Arr.lt (h : Arr w B t l) : B < w.heap.size := (Array.getElem?_eq_some_iff.1 h).1
theorem Arr.below (h : Arr w B t l) (hb : Below w.heap.size w w1) : Arr w1 B t l := (hb.block B h.lt).trans h
theorem Arr.new (w : World) (t : Nat) (l : List Int) : Arr (w.alloc (.cells (arC l) t)) w.heap.size t l := by
  show (w.heap.push _)[w.heap.size]? = _
  simp
theorem Arr.cell (h : Arr w B t l) {i : Nat} (hi : i < l.length) : w.cell? ⟨B, i, none⟩ = some (.int .u32 (bco l i)) := by
  unfold Arr at h
  simp [World.cell?, h, arC_get hi]
end
section
variable {P : Program} {ops : Array Oper} {Q : Exit → Act → World → Prop} {rest : List Oper} {oi : Oper} {a : Act} {w : World}
theorem ev_alloc_ (N : Option Tmp) (t n : Nat) (hd : oi.dst = N) (hg : oi.guard = none) (hop : oi.op = .alloc t) (hz : ∀ w, (zeroValue t).run P w = .ok (arW .u32 (List.replicate n 0)) w)
    (h : ∀ B w1, w.heap.size ≤ B → Arr w1 B t (List.replicate n 0) → Below w.heap.size w w1 → wpList P ops Q rest (a.put N (.pointer (some ⟨B, 0, none⟩))) w1) : wpList P ops Q (oi :: rest) a w := by
  subst hd
  refine wpList_plain hg fun K hK => ?_
  unfold Oper.wp execOp
  simp only [hop, Sem.run_bind, Instr.alloc, hz, newVar, newRow, run_newObj_alloc, Sem.run_pure, Result.andThen_ok]
  exact hK _ _ (h _ _ (Nat.le_refl _) (Arr.new w t _) (below_alloc (Below.refl _ _) _))
theorem ev_slice_ (N : Option Tmp) (t : Nat) (x : Operand) (B n e : Nat) (hd : oi.dst = N) (hg : oi.guard = none) (hop : oi.op = .slice t x none none none) (hx : a.eval x = .pointer (some ⟨B, 0, none⟩))
    (hu : P.underlying t = some (.array n e)) (he : (P.info? e).map (·.size) = some 1)
    (h : wpList P ops Q rest (a.put N (.slice (some ⟨B, 0, none⟩) n n)) w) : wpList P ops Q (oi :: rest) a w := by
  subst hd
  refine wpList_plain hg fun K hK => ?_
  have hs : (Instr.sliceAt t (.pointer (some ⟨B, 0, none⟩)) none none none).run P w = .ok (.slice (some ⟨B, 0, none⟩) n n) w := by
    cases hq : P.info? e with
    | none => simp [hq] at he
    | some i =>
      have hs : i.size = 1 := by simpa [hq] using he
      simp [Instr.sliceAt, run_underlying hu w, Instr.sureAddr, Instr.sliceBounds, sizeOf, typeInfo, hq, Addr.add]
  unfold Oper.wp execOp
  simp only [hop, hx, Option.map_none, Sem.run_bind, hs, Sem.run_pure, Result.andThen_ok]
  exact hK _ _ h
end
section
variable {P : Program} {ops : Array Oper} {rest : List Oper} {o : Oper} {a : Act} {Q : Exit → Act → World → Prop}
theorem ev_copy_ {W : World} (N : Option Tmp) (hd : o.dst = N) (hgd : o.guard = none) (s x : Operand) (t t' e T B : Nat) (xs ys : List Int) (A : Option Addr) (m c : Nat)
    (ho : o.op = .call { callee := .builtin .copy, args := #[s, x], argTypes := #[t, t'] })
    (ht : P.underlying t = some (.slice e)) (hsz : (P.info? e).map (·.size) = some 1)
    (hs : a.eval s = .slice (some ⟨B, 0, none⟩) xs.length xs.length) (hx : a.eval x = .slice A m c)
    (HA : Arr W B T xs) (HC : Kd.C (Kd.int .u32) W A m ys)
    (h : ∀ w1, Arr w1 B T (cpyAt xs 0 ys) → W.grownBy w1 (some B) → (∀ base w0, base ≤ B → Below base w0 W → Below base w0 w1) → wpList P ops Q rest (a.put N (goInt (ys.take xs.length).length)) w1) :
    wpList P ops Q (o :: rest) a W := by
  subst hd
  have hR := Kd.reads_of_C (enc := Value.int .u32) (d := (0 : Int)) (h1 := fun _ => rfl) HC
  have hm : ys.length = m := hR.1
  obtain ⟨ys', hys⟩ : ∃ ys', ys' = ys.take xs.length := ⟨_, rfl⟩
  have hyl : ys'.length = min xs.length m := by rw [hys, List.length_take, hm]
  have hcp : cpyAt xs 0 ys = splice xs 0 ys' := by rw [hys]; rfl
  rw [hcp, ← hys] at h
  have fin : ∀ w1, (Builtin.copy_ #[t, t'] o.type #[.slice (some ⟨B, 0, none⟩) xs.length xs.length, .slice A m c]).run P W = .ok (goInt ys'.length) w1 → Arr w1 B T (splice xs 0 ys') → W.grownBy w1 (some B) → wpList P ops Q (o :: rest) a W := by
    intro w1 hr hrow hg
    refine wpList_plain hgd fun K hK => ?_
    unfold Oper.wp execOp
    simp only [ho, resolve, invoke, builtin, Sem.run_bind, Sem.run_pure, Result.andThen_ok, List.map_toArray, List.map_cons, List.map_nil, hs, hx, hr]
    exact hK _ _ (h w1 hrow hg (fun base w0 hb hbb => hbb.grown hg (Nat.le_trans hb (Nat.le_of_lt HA.lt)) (fun k hk => by cases hk; exact hb)))
  rcases Nat.eq_zero_or_pos ys'.length with h0 | hp
  · have h0' : ys' = [] := List.eq_nil_of_length_eq_zero h0
    refine fin W ?_ (by rw [h0']; simpa [splice] using HA) (World.grownBy.refl W _)
    rw [h0']
    exact run_copy_none W t t' o.type e _ A _ _ m c ht hsz (by show min m xs.length = 0; omega)
  · obtain ⟨ad, hA, hc⟩ := hR.2.2 (by omega)
    have hsrc : ∀ j u, (encs (Value.int .u32) ys')[j]? = some u → W.cell? (ad.add j) = some u := by
      intro j u hu
      have hj : j < ys'.length := by
        rcases Nat.lt_or_ge j ys'.length with h | h
        · exact h
        · rw [List.getElem?_eq_none (by rw [encs_length]; exact h)] at hu
          cases hu
      rw [encs_get (d := (0 : Int)) _ j hj] at hu
      rw [hc j (by omega), ← hu, hys]
      have : j < xs.length := by omega
      simp [List.getD_eq_getElem?_getD, this]
    have hkl : (encs (Value.int .u32) ys').length = ys'.length := encs_length _
    have hr := run_copy_cells (P := P) W t t' o.type e B 0 xs.length xs.length ad m c (encs (Value.int .u32) ys') ht hsz (by rw [hkl, hyl, Nat.min_comm]) hsrc
      (fun j hj => by rw [cell_of_row W B _ (arC xs) T (0, 0) HA]; simp [arC_size]; omega) (fun j _ => blk_frozen HA _) (by intro u hu; simp only [encs, List.mem_map] at hu; obtain ⟨q, _, rfl⟩ := hu; rfl)
    obtain ⟨cur', h3, h4, h5⟩ := setCells_row (encs (Value.int .u32) ys') 0 W (arC xs) HA (by rw [hkl, arC_size]; omega)
    obtain ⟨s1, s2, s3, s4⟩ := setCells_same B (encs (Value.int .u32) ys') 0 W
    refine fin _ (by rw [hA, hr, hkl]) ?_ ⟨s1, s2, s3, by rw [s4]; exact Nat.le_refl _, fun k _ hk => setCells_far _ _ k (fun he => hk (by rw [he]))⟩
    have e1 : cur' = arC (splice xs 0 ys') := by
      apply Array.toList_inj.1
      rw [h5]
      simp [arC, splice, encs, List.map_append, List.map_drop]
    unfold Arr
    rw [← e1]
    exact h3
end
theorem zA2 : (∀ w, (zeroValue 77).run Tryd.prog w = .ok (arW .u32 (List.replicate 2 0)) w) ∧ (Tryd.prog.info? 77).map (·.size) = some 2 := zero_of_info (by kernel_rfl)
theorem uA2 : Tryd.prog.underlying 77 = some (.array 2 44) := by kernel_rfl
theorem sU2 : (Tryd.prog.info? 44).map (·.size) = some 1 := by kernel_rfl
end Go.Proofs.YtjjjoepnlhpjdaaDoor.Q

/- Arrays of whole numbers: as values, and as variables in memory. -/
import Derived.Test.YthinfmfjpaikiaaDoorTurn
import Derived.Test.YthinfmfjpaikiaaDoorWMore
import Derived.Laws.Tables
import Derived.Laws.Rows
import Derived.Laws.CopyOwn
import Derived.Deep.WholeRow
import Derived.Great.Ranges
namespace Go.Proofs.YthinfmfjpaikiaaDoor.Q
open Go.RowKit Go.Proofs.YthinfmfjpaikiaaDoorW.PrintWords Go.Proofs.YthinfmfjpaikiaaDoorW.PrintLast Go.Proofs.YthinfmfjpaikiaaDoorW.PrintMore
def arC (l : List Int) : Array Value := (l.map (Value.int .u64)).toArray
def arW (k : IntKind) (l : List Int) : Value := .agg (l.map (Value.int k)).toArray
theorem arC_size (l : List Int) : (arC l).size = l.length := by simp [arC]
theorem arC_get {l : List Int} {i : Nat} (h : i < l.length) : (arC l)[i]? = some (.int .u64 (bco l i)) := by
  simp [arC, bco, List.getD, h]
theorem arC_one (l : List Int) : (arC l).all (·.oneCell') = true := by
  rw [Array.all_eq_true_iff_forall_mem]
  intro x hx
  obtain ⟨c, _, rfl⟩ := List.mem_map.1 (by simpa [arC] using hx)
  rfl
theorem arC_set (l : List Int) (i : Nat) (v : Int) : (arC l).setIfInBounds i (.int .u64 v) = arC (l.set i v) := by
  simp [arC, List.map_set]
def Arr (w : World) (B t : Nat) (l : List Int) : Prop := w.heap[B]? = some (.cells (arC l) t (0, 0))
section
variable {w w1 : World} {B t base : Nat} {l : List Int}
theorem Arr.lt (h : Arr w B t l) : B < w.heap.size := (Array.getElem?_eq_some_iff.1 h).1
theorem Arr.below (h : Arr w B t l) (hb : Below w.heap.size w w1) : Arr w1 B t l := (hb.block B h.lt).trans h
theorem Arr.new (w : World) (t : Nat) (l : List Int) : Arr (w.alloc (.cells (arC l) t)) w.heap.size t l := by
  show (w.heap.push _)[w.heap.size]? = _
  simp
theorem Arr.part (h : Arr w B t l) : Part w B 0 l := ⟨arC l, t, h, by rw [arC_size]; omega, fun i hi => by rw [Nat.zero_add]; exact arC_get hi⟩
theorem Arr.C (h : Arr w B t l) (hl : l.length ≤ 9223372036854775807) : Kd.C (Kd.int .u64) w (some ⟨B, 0, none⟩) l.length l := by
  refine ⟨rfl, hl, fun _ => ⟨_, rfl, fun j p hp => ⟨[.int .u64 p], rfl, rfl, fun i u hu => ?_⟩⟩⟩
  have hj : j < l.length := (List.getElem?_eq_some_iff.1 hp).1
  obtain rfl : i = 0 := by
    cases i with
    | zero => rfl
    | succ i => simp at hu
  have e : bco l j = p := by simp [bco, List.getD, hp]
  have hu' : Value.int .u64 p = u := by simpa using hu
  have := h.part.cell hj
  rw [e] at this
  rw [← hu', show (Kd.int .u64).sz = 1 from rfl, Nat.mul_one, Nat.add_zero, show (⟨B, 0, none⟩ : Addr).add j = ⟨B, 0 + j, none⟩ by unfold Addr.add; split <;> simp_all]
  exact this
theorem Arr.set (h : Arr w B t l) (i : Nat) (v : Int) : Arr (w.setCell ⟨B, i, none⟩ (.int .u64 v)) B t (l.set i v) := by
  rw [setCell_eq_setRow w B i _ t (0, 0) _ h, arC_set]
  exact setRow_heap w B _ _ t (0, 0) h
theorem Arr.setRow (h : Arr w B t l) (r : List Int) : Arr (w.setRow B (arC r)) B t r := setRow_heap w B _ _ t (0, 0) h
theorem Arr.grown (h : Arr w B t l) {row : Option Nat} (hg : w.grownBy w1 row) (hn : some B ≠ row) : Arr w1 B t l := (hg.block B h.lt hn).trans h
theorem setRow_grown (w : World) (g : Nat) (cs : Array Value) : w.grownBy (w.setRow g cs) (some g) := ⟨rfl, rfl, rfl, by simp, fun k _ hn => setRow_other w g k cs (fun e => hn (by rw [e]))⟩
variable {P : Program} {n e : Nat}
theorem Arr.load (h : Arr w B t l) (hu : P.underlying t = some (.array n e)) (hi : (P.info? t).map (·.size) = some l.length) : (loadVar t ⟨B, 0, none⟩).run P w = .ok (arW .u64 l) w :=
  run_loadVar_row w B t t (arC l) (0, 0) _ h hu rfl (by rw [arC_size]; exact hi)
theorem Arr.store (h : Arr w B t l) {r : List Int} (hr : r.length = l.length) (hi : (P.info? t).map (·.size) = some l.length) : (storeVar t ⟨B, 0, none⟩ (arW .u64 r)).run P w = .ok () (w.setRow B (arC r)) :=
  run_storeVar_row w B t t (arC l) (arC r) h (by rw [arC_size, hr]; exact hi) (by rw [arC_size, arC_size, hr]) (arC_one r)
end
section
variable {P : Program} {ops : Array Oper} {Q : Exit → Act → World → Prop} {rest : List Oper} {oi : Oper} {a : Act} {w : World}
theorem ev_alloc_ (N : Option Tmp) (t n : Nat) (hd : oi.dst = N) (hg : oi.guard = none) (hop : oi.op = .alloc t) (hz : ∀ w, (zeroValue t).run P w = .ok (arW .u64 (List.replicate n 0)) w)
    (h : ∀ B w1, w.heap.size ≤ B → Arr w1 B t (List.replicate n 0) → Below w.heap.size w w1 → wpList P ops Q rest (a.put N (.pointer (some ⟨B, 0, none⟩))) w1) : wpList P ops Q (oi :: rest) a w := by
  subst hd
  refine wpList_plain hg fun K hK => ?_
  unfold Oper.wp execOp
  simp only [hop, Sem.run_bind, Instr.alloc, hz, newVar, newRow, run_newObj_alloc, Sem.run_pure, Result.andThen_ok]
  exact hK _ _ (h _ _ (Nat.le_refl _) (Arr.new w t _) (below_alloc (Below.refl _ _) _))
theorem ev_box_ (N : Option Tmp) (t : Nat) (x : Operand) (l : List Int) (hd : oi.dst = N) (hg : oi.guard = none) (hop : oi.op = .box t x) (hx : a.eval x = arW .u64 l)
    (h : ∀ B w1, w.heap.size ≤ B → Arr w1 B t l → Below w.heap.size w w1 → wpList P ops Q rest (a.put N (.pointer (some ⟨B, 0, none⟩))) w1) : wpList P ops Q (oi :: rest) a w := by
  subst hd
  refine wpList_plain hg fun K hK => ?_
  unfold Oper.wp execOp
  simp only [hop, hx, Sem.run_bind, Instr.box, newVar, newRow, run_newObj_alloc, Sem.run_pure, Result.andThen_ok]
  exact hK _ _ (h _ _ (Nat.le_refl _) (Arr.new w t _) (below_alloc (Below.refl _ _) _))
theorem ev_store_ (t : Nat) (x y : Operand) (B : Nat) (l r : List Int) (hd : oi.dst = none) (hg : oi.guard = none) (hop : oi.op = .store t x y) (hx : a.eval x = .pointer (some ⟨B, 0, none⟩)) (hy : a.eval y = arW .u64 r)
    (hA : Arr w B t l) (hr : r.length = l.length) (hi : (P.info? t).map (·.size) = some l.length)
    (h : ∀ w1, Arr w1 B t r → w.grownBy w1 (some B) → w1.heap.size = w.heap.size → (∀ base w0, base ≤ B → Below base w0 w → Below base w0 w1) → wpList P ops Q rest a w1) : wpList P ops Q (oi :: rest) a w := by
  refine wpList_store_row hg t x y hop B (arC r) hx hy t (arC l) hA (by rw [arC_size, hr]; exact hi) (by rw [arC_size, arC_size, hr]) (arC_one r) ?_
  rw [hd]
  exact h _ (hA.setRow r) (setRow_grown w B _) (by simp) (fun base w0 hB hb => below_setRow hb hB _)
theorem ev_load_ (N : Option Tmp) (t : Nat) (x : Operand) (B n e : Nat) (l : List Int) (hd : oi.dst = N) (hg : oi.guard = none) (hop : oi.op = .load t x) (hx : a.eval x = .pointer (some ⟨B, 0, none⟩)) (hA : Arr w B t l)
    (hu : P.underlying t = some (.array n e)) (hi : (P.info? t).map (·.size) = some l.length)
    (h : wpList P ops Q rest (a.put N (arW .u64 l)) w) : wpList P ops Q (oi :: rest) a w := by
  subst hd
  exact wpList_load_row hg t x hop B hx t (arC l) (0, 0) _ hA hu rfl (by rw [arC_size]; exact hi) h
theorem ev_slice_ (N : Option Tmp) (t : Nat) (x : Operand) (B n e : Nat) (hd : oi.dst = N) (hg : oi.guard = none) (hop : oi.op = .slice t x none none none) (hx : a.eval x = .pointer (some ⟨B, 0, none⟩))
    (hu : P.underlying t = some (.array n e)) (he : (P.info? e).map (·.size) = some 1)
    (h : wpList P ops Q rest (a.put N (.slice (some ⟨B, 0, none⟩) n n)) w) : wpList P ops Q (oi :: rest) a w := by
  subst hd
  refine wpList_plain hg fun K hK => ?_
  have hs : (Instr.sliceAt t (.pointer (some ⟨B, 0, none⟩)) none none none).run P w = .ok (.slice (some ⟨B, 0, none⟩) n n) w := by
    cases hq : P.info? e with
    | none => simp [hq] at he
    | some i =>
      have hs : i.size = 1 := by simpa [hq] using he
      simp [Instr.sliceAt, run_underlying hu w, Instr.sureAddr, Instr.sliceBounds, sizeOf, typeInfo, hq, Addr.add]
  unfold Oper.wp execOp
  simp only [hop, hx, Option.map_none, Sem.run_bind, hs, Sem.run_pure, Result.andThen_ok]
  exact hK _ _ h
end
theorem results_arr {P : Program} {fn : Func} {p t B n e : Nat} {l : List Int} (h : fn.results = #[.cell p t]) (tmps : Array Value) (w : World) (hp : tmps.getD p undef = .pointer (some ⟨B, 0, none⟩)) (hA : Arr w B t l)
    (hu : P.underlying t = some (.array n e)) (hi : (P.info? t).map (·.size) = some l.length) : (results fn tmps).run P w = .ok (arW .u64 l) w :=
  results_cell_row h tmps w B t (arC l) (0, 0) _ hp hA hu rfl (by rw [arC_size]; exact hi)
end Go.Proofs.YthinfmfjpaikiaaDoor.Q

/- A region in the round of a loop over a function, walked by the plain words: what the plain walk of the region comes to is what its walk in the round comes to, where no operation is a defer statement. -/
import Derived.RangeFuncNested
import Derived.RangeFuncWrites
import Derived.RangeFuncFrom
import Derived.RangeFuncCalls
import Derived.RangeFuncBound
import Derived.RangeFuncLeaves
import Derived.TacticsIn
import Derived.OrdersIn
import Derived.Tactics
import Derived.Orders
import Derived.Test.YtmnahhacobfafaaDoorWLast
namespace Go.Proofs.YtmnahhacobfafaaDoor
open Go.RowKit
set_option linter.unusedVariables false

variable {P : Program}

theorem rowsIn_ {l n : Nat} {row : String} {args : Array Value} {w : World} {R : Value → World → Prop} (h : Rows P row args w R) : RowsIn (Fence.wide.inRound l) n P row args w R :=
  fun c cs _ => let ⟨v, w', r, s⟩ := h c cs; ⟨v, w', r, by rw [fenced_inRound]; exact stepsIn_wide.2 s⟩

theorem operIn_ {l n : Nat} {o : Oper} {a : Act} {w : World} {K : Act → World → Prop} {Q : Exit → Act → World → Prop} (hnd : ∀ c, o.op ≠ .defer c) (h : o.wp P a w K Q) : o.wpIn (Fence.wide.inRound l) n P a w K Q := by
  refine ⟨fun _ _ => trivial, ?_⟩
  rw [show (Fence.wide.inRound l).round = some l from rfl, Oper.semAt_some l _ _ hnd]
  unfold Oper.wp at h
  generalize (execOp a.eval o).run P w = r at h ⊢
  cases r with
  | ok x w' =>
    cases x with
    | enter f args =>
      refine ⟨fun e => ?_, CallsIn.inRound l (callsIn_wide.2 h)⟩
      cases e
    | row row args =>
      refine ⟨fun e => ?_, rowsIn_ h⟩
      cases e
    | round _ _ _ _ _ => exact h.elim
    | _ => exact h
  | halt s w' => cases s <;> exact h

def noDefer (ops : Array Oper) : Bool := ops.all fun o => match o.op with | .defer _ => false | _ => true
theorem noDefer_at {ops : Array Oper} (h : noDefer ops = true) {i : Nat} {o : Oper} (hi : ops[i]? = some o) : ∀ c, o.op ≠ .defer c := by
  intro c hc
  have := (Array.all_eq_true.1 h) i (Array.getElem?_eq_some_iff.1 hi).1
  rw [(Array.getElem?_eq_some_iff.1 hi).2, hc] at this
  simp at this

theorem wpOpIn_ {l n : Nat} {ops : Array Oper} {Q : Exit → Act → World → Prop} {i : Nat} {K : Act → World → Prop} {a : Act} {w : World} (hn : noDefer ops = true) (hQ : ¬ LetsOut Q) (h : wpOp P ops Q i K a w) :
    wpOpIn (Fence.wide.inRound l) n P ops Q i K a w := by
  unfold wpOp at h
  unfold wpOpIn
  cases hi : ops[i]? with
  | none => simpa [hi] using h
  | some o =>
    simp only [hi] at h ⊢
    by_cases hw : Region.wanted o (yielded ops a.tmps) = true
    · rw [if_pos hw] at h ⊢
      exact operIn_ (noDefer_at hn hi) (h.resolve_right fun h => hQ h.2)
    · rw [if_neg hw] at h ⊢
      exact ⟨fun _ _ => trivial, h⟩

theorem wpOpsIn_ {l n : Nat} {ops : Array Oper} {Q : Exit → Act → World → Prop} (hn : noDefer ops = true) (hQ : ¬ LetsOut Q) : ∀ (is : List Nat) (a : Act) (w : World), wpOps P ops Q is a w →
    wpOpsIn (Fence.wide.inRound l) n P ops Q is a w
  | [], _, _, h => h
  | i :: is, a, w, h => by
    rw [wpOps_cons] at h
    rw [wpOpsIn_cons]
    refine wpOpIn_ hn hQ ?_
    exact wpOp_mono (fun a w => wpOpsIn_ hn hQ is a w) h

theorem wpAnyIn_ {l n : Nat} {md : Region.Mode} {ops : Array Oper} {Q : Exit → Act → World → Prop} (hn : noDefer ops = true) (hQ : ¬ LetsOut Q) : ∀ (fuel : Nat) (listed : Array Bool) (a : Act) (w : World),
    wpAny P md ops Q fuel listed a w → wpAnyIn (Fence.wide.inRound l) n P md ops Q fuel listed a w
  | 0, _, _, _, h => h
  | fuel + 1, listed, a, w, h => ⟨h.1, fun i hi => wpOpIn_ hn hQ (wpOp_mono (fun a w => wpAnyIn_ hn hQ fuel _ a w) (h.2 i hi))⟩

theorem regIn_list {l n id : Nat} {os : List Oper} {Q : Exit → Act → World → Prop} {a : Act} {w : World} (hn : noDefer os.toArray = true) (hQ : ¬ LetsOut Q) (h : wpList P os.toArray Q os a w) :
    (Code.region id os.toArray false).wpIn (Fence.wide.inRound l) n P Q a w := by
  refine wpIn_region (wpOpsIn_ hn hQ _ _ _ ?_)
  rw [List.range_eq_range', show os.toArray.size = os.length from by simp, wpOps_eq_wpList os 0 (by simp)]
  exact h

theorem startIn_ {ops : Array Oper} {Q : Exit → Act → World → Prop} {S : World → Prop} {ds : List Nat} {l nr id n : Nat} {a : Act} {w : World} (hn : noDefer ops = true) (hQ : ¬ LetsOut Q) (b : Array Bool) (hm : P.follows .mixedOrders = true) (hs : ops.size = n) (hl : Array.replicate n false = b) (hS : S w.drew)
    (h : S w.drew → Go.Proofs.YtmnahhacobfafaaDoorW.PrintLast.wpAnyLast P .any ops Q S ds n b a w.drew) : (Code.region id ops true).wpIn (Fence.wide.inRound l) nr P Q a w := by
  subst hs
  subst hl
  exact wpIn_region_any hm (wpAnyIn_ hn hQ _ _ _ _ (Go.Proofs.YtmnahhacobfafaaDoorW.PrintLast.wpAny_of_last _ _ _ _ (h hS)))

structure KeepsP (p : Nat → Prop) (W W' : World) : Prop where
  size : W.heap.size ≤ W'.heap.size
  same : ∀ b, p b → W'.heap[b]? = W.heap[b]?
theorem KeepsP.refl (p : Nat → Prop) (W : World) : KeepsP p W W := ⟨Nat.le_refl _, fun _ _ => rfl⟩
theorem KeepsP.trans {p : Nat → Prop} {A B C : World} (h : KeepsP p A B) (k : KeepsP p B C) : KeepsP p A C := ⟨Nat.le_trans h.size k.size, fun b hb => (k.same b hb).trans (h.same b hb)⟩
theorem KeepsP.cell {p : Nat → Prop} {W W' : World} (h : KeepsP p W W') {q : Addr} (hq : p q.block) : W'.cell? q = W.cell? q := World.cell?_of_block (w := W) (h.same q.block hq)
theorem KeepsP.of_below {p : Nat → Prop} {B : Nat} {W W' : World} (h : Below B W W') (hp : ∀ b, p b → b < B) : KeepsP p W W' := ⟨h.size, fun b hb => h.block b (hp b hb)⟩
theorem KeepsP.put {p : Nat → Prop} {W : World} {l : Nat} (o : Obj) (hp : ∀ b, p b → b ≠ l) : KeepsP p W (W.putObj l o) :=
  ⟨by simp [World.putObj], fun b hb => World.putObj_heap_other (hp b hb)⟩

section seq
variable {F : Fence} {n : Nat}

def SeqRun (F : Fence) (n : Nat) (P : Program) (g : Nat) (lb : Array Value) (xs : List (Array Value)) (K : World → World → Prop) (w : World) : Prop :=
  ∀ (l : Nat) (J : Nat → World → Prop) (W : World), Below w.heap.size w W → AbidesFrom W.heap.size J →
    (∀ (i : Nat) (hi : i < xs.length) (W1 : World), J i W1 → YieldAt F (n - 1) P l xs[i] W1 fun e W' => e = .returned (.bool true) ∧ J (i + 1) W' ∧ K W1 W') →
    J 0 W → CallsIn F n P g (#[.func (.yield l) #[] #[]] ++ lb) W fun e W' => (∃ v, e = .returned v) ∧ J xs.length W'

def OnPost (B : Nat) (K : World → World → Prop) (I : World → Prop) (W : World) : Exit → Act → World → Prop
  | .normal, _, W' => KeepsFrom B W W' ∧ K W W' ∧ I W'
  | _, _, _ => False
theorem wpIn_rangeSeq {g : Operand} {ps : Array Tmp} {assign body : Code} {Q : Exit → Act → World → Prop} {a : Act} {w : World}
    (hro : F.round = none) (h1 : 1 ≤ n) {gf : Nat} {lb : Array Value} (hg : a.eval g = .func (.func gf) #[] lb) (hFg : F.fn gf) (eg : ∀ args w, (callFunc gf args).run P w = .ok (.enter gf args) w)
    {xs : List (Array Value)} {K : World → World → Prop} {w0 : World} (hseq : SeqRun F (n - 1) P gf lb xs K w0)
    (hKt : ∀ {A B C : World}, K A B → K B C → K A C) (hKb : ∀ (W : World) (l : Nat) (o o' : Obj), w.heap.size ≤ l → W.heap[l]? = some o → o.isCells = false → o.isWalk = false → K W (W.putObj l o')) (hb0 : Below w0.heap.size w0 w) (hps : ∀ x ∈ xs, x.size = ps.size)
    (I : Nat → World → Prop) (hI : OwnFrom w.heap.size I) (h0 : I 0 w) (a₁ : Nat → Act)
    (hassign : ∀ (l i : Nat) (hi : i < xs.length) (W : World) (K' : Act → World → Prop), K' (a₁ i) W →
      assign.wpIn (F.inRound l) (n - 1 - 1) P (Exit.then K' (fun _ _ _ => False)) { tmps := (ps.zip xs[i]).foldl (fun t (p, v) => t.setIfInBounds p v) a.tmps, defers := [] } W)
    (hbody : ∀ (l i : Nat) (W : World), i < xs.length → I i W → body.wpIn (F.inRound l) (n - 1 - 1) P (OnPost w.heap.size K (I (i + 1)) W) (a₁ i) W)
    (hdone : ∀ (D : Nat) (W : World), w.heap.size ≤ D → I xs.length W → W.heap[D]? = some (.deferred (some [])) → Q .normal { a with defers := { target := .collected D, args := #[] } :: a.defers } W) :
    (Code.rangeFunc g ps assign body).wpIn F n P Q a w := by
  refine wpIn_rangeFunc ?_
  intro fn hfn
  rw [hro]
  obtain ⟨rec, hrec⟩ : ∃ rec : LoopState → Option Code → Loop, rec = fun st pe => { state := st, pending := pe, fn, tmps := a.tmps, params := ps, assign, body, defers := w.heap.size } := ⟨_, rfl⟩
  obtain ⟨W1, hW1⟩ : ∃ W1, (w.alloc (.deferred (some []))).alloc (.loop (rec .ready none)) = W1 := ⟨_, rfl⟩
  have hsz : W1.heap.size = w.heap.size + 2 := by rw [← hW1]; simp
  have hL1 : W1.heap[w.heap.size + 1]? = some (.loop (rec .ready none)) := by
    rw [← hW1]; have := World.alloc_heap_new (w.alloc (.deferred (some []))) (.loop (rec .ready none)); rwa [World.size_alloc] at this
  have hD1 : W1.heap[w.heap.size]? = some (.deferred (some [])) := by
    rw [← hW1]; exact (Below.heap_alloc _ _ _ (by simp)).trans (World.alloc_heap_new w _)
  have hI1 : I 0 W1 := by rw [← hW1]; exact hI.alloc _ (hI.alloc _ h0)
  have hb1 : Below w0.heap.size w0 W1 := by
    rw [← hW1]; exact hb0.trans ((((Below.refl _ w).alloc (Nat.le_refl _) _).alloc (by simp) _).mono hb0.size)
  refine ⟨w.heap.size + 1, [{ target := .collected w.heap.size, args := #[] }], W1, { target := .fn (.func gf) lb, args := #[.func (.yield (w.heap.size + 1)) #[] #[]] }, W1, gf,
    #[.func (.yield (w.heap.size + 1)) #[] #[]] ++ lb, W1, ?_, ?_, ?_, ?_, fun _ => h1, ?_⟩
  · rw [← hW1, hrec]; exact run_enterLoop_outer _ _ _ _ _
  · simp only [resolve, hg]
    simp [go_sem]
  · intro f' hf'; simp [Target.leads] at hf'; subst hf'; exact hFg
  · simp [invoke, go_sem, eg]
  · have hab : AbidesFrom W1.heap.size (fun i W => I i W ∧ W.heap[w.heap.size + 1]? = some (.loop (rec .ready none)) ∧ W.heap[w.heap.size]? = some (.deferred (some []))) := by
      intro s A B row hs hg' hr
      have hr' : ∀ r, row = some r → ∃ o : Obj, A.heap[r]? = some o ∧ o.isWalk = true := fun r e => (hr r e).2
      refine ⟨hI s A B row hs.1 hg' (fun r e => ?_), (grownBy_keeps hg' hr' hs.2.1 rfl).trans hs.2.1, (grownBy_keeps hg' hr' hs.2.2 rfl).trans hs.2.2⟩
      obtain ⟨hB, o, ho, hw⟩ := hr r e
      exact ⟨by omega, o, ho, Obj.not_cells_of_walk hw⟩
    refine (hseq (w.heap.size + 1) _ W1 hb1 hab ?_ ⟨hI1, hL1, hD1⟩).mono ?_
    · rintro i hi W ⟨hIi, hl, hk⟩
      have hy := run_yield (P := P) (args := xs[i]) hl (by rw [hrec]; exact hps _ (List.getElem_mem hi))
      rw [hrec] at hy
      refine ⟨fn, _, assign, body, hy, roundIn_of_wpIn hfn (hassign _ i hi W _ ⟨_, run_beginRound hl (by rw [hrec]), ?_⟩)⟩
      have hlt : w.heap.size + 1 < W.heap.size := (Array.getElem?_eq_some_iff.1 hl).1
      have hl2 : (W.putObj (w.heap.size + 1) (.loop { rec .ready none with state := .busy })).heap[w.heap.size + 1]? = some (.loop { rec .ready none with state := .busy }) := World.putObj_heap_same hlt
      have hk2 : (W.putObj (w.heap.size + 1) (.loop { rec .ready none with state := .busy })).heap[w.heap.size]? = some (.deferred (some [])) := (World.putObj_heap_other (by omega)).trans hk
      have hw2 : K W (W.putObj (w.heap.size + 1) (.loop { rec .ready none with state := .busy })) := hKb _ _ _ _ (by omega) hl rfl rfl
      refine wpIn_mono (hbody _ i _ hi (hI.putObj _ hIi (by omega) hl rfl)) ?_
      rintro e a3 W3 hp
      cases e with
      | normal =>
        obtain ⟨hk3, hkp3, hi3⟩ := hp
        have hl3 := hk3.same _ _ (by omega) hl2 rfl
        have hr3 := run_endRound (P := P) none hl3
        have hl4 : (W3.putObj (w.heap.size + 1) (.loop (rec .ready none))).heap[w.heap.size + 1]? = some (.loop (rec .ready none)) := World.putObj_heap_same (Array.getElem?_eq_some_iff.1 hl3).1
        have hk4 : (W3.putObj (w.heap.size + 1) (.loop (rec .ready none))).heap[w.heap.size]? = some (.deferred (some [])) := (World.putObj_heap_other (by omega)).trans (hk3.same _ _ (Nat.le_refl _) hk2 rfl)
        refine ⟨_, W3.putObj (w.heap.size + 1) (.loop (rec .ready none)), ?_, rfl, ⟨hI.putObj _ hi3 (by omega) hl3 rfl, hl4, hk4⟩, hKt (hKt hw2 hkp3) (hKb _ _ _ _ (by omega) hl3 rfl rfl)⟩
        rw [hrec] at hr3 ⊢
        exact hr3
      | _ => exact hp.elim
    · rintro e W2 ⟨⟨v, rfl⟩, hi, hl, hk⟩
      exact ⟨none, _, by have := run_endLoop (P := P) hl (by rw [hrec]; simp); rw [hrec] at this; exact this, hdone _ _ (Nat.le_refl _) (hI.putObj _ hi (by omega) hl rfl) ((World.putObj_heap_other (by omega)).trans hk)⟩
end seq
end Go.Proofs.YtmnahhacobfafaaDoor

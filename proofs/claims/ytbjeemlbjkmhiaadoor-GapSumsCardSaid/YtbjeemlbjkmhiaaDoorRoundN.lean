/- Ranges over a function that stand in an iterator of one's own: the loop's own law, a loop within a round; what a round keeps. -/
import Derived.RangeFuncNested
import Derived.Test.YtbjeemlbjkmhiaaDoorRound
namespace Go.Proofs.YtbjeemlbjkmhiaaDoor
open Go.RowKit
set_option linter.unusedVariables false

variable {P : Program}
structure KC (nb : Nat) (W W' : World) : Prop where
  size : W.heap.size ≤ W'.heap.size
  same : ∀ (b : Nat) (o : Obj), b ≠ nb → W.heap[b]? = some o → o.isCells = true → W'.heap[b]? = some o
theorem KC.refl (nb : Nat) (W : World) : KC nb W W := ⟨Nat.le_refl _, fun _ _ _ h _ => h⟩
theorem KC.trans {nb : Nat} {A B C : World} (h : KC nb A B) (g : KC nb B C) : KC nb A C := ⟨Nat.le_trans h.size g.size, fun b o hb ho hc => g.same b o hb (h.same b o hb ho hc) hc⟩
theorem KC.putObj {nb : Nat} (W : World) {l : Nat} {o : Obj} (o' : Obj) (hl : W.heap[l]? = some o) (hc : o.isCells = false) : KC nb W (W.putObj l o') :=
  ⟨by simp [World.putObj], fun b p _ hp hpc => (World.putObj_heap_other (fun e => by subst e; rw [hl] at hp; cases hp; rw [hc] at hpc; cases hpc)).trans hp⟩
theorem KC.of_below {nb : Nat} {W W' : World} (h : Below W.heap.size W W') : KC nb W W' := ⟨h.size, fun b o _ ho _ => (h.block b (Array.getElem?_eq_some_iff.1 ho).1).trans ho⟩
theorem KC.set {nb : Nat} {A W : World} (h : KC nb A W) (u : Value) : KC nb A (W.setCell ⟨nb, 0, none⟩ u) :=
  ⟨by simpa using h.size, fun b o hb ho hc => (Below.heap_setCell W ⟨nb, 0, none⟩ u b hb).trans (h.same b o hb ho hc)⟩
theorem KC.cells {nb b : Nat} {W W' : World} (h : KC nb W W') (hb : b ≠ nb) {cs : Array Value} {t : TypeId} {f : Nat × Nat} (hc : W.heap[b]? = some (.cells cs t f)) : W'.heap[b]? = some (.cells cs t f) := h.same b _ hb hc rfl
theorem keepsFrom_setAny {B b : Nat} {A C : World} (h : KeepsFrom B A C) {cs : Array Value} {t : TypeId} {f : Nat × Nat} (hc : C.heap[b]? = some (.cells cs t f)) (j : Nat) (u : Value) : KeepsFrom B A (C.setCell ⟨b, j, none⟩ u) :=
  ⟨by simpa using h.size, fun k o hk ho hn => by
    have h1 := h.same k o hk ho hn
    refine (Below.heap_setCell C ⟨b, j, none⟩ u k ?_).trans h1
    show k ≠ b
    intro e
    rw [e, hc] at h1
    cases h1
    simp [Obj.isCells] at hn⟩
theorem keepsFrom_of_below {B : Nat} {A W W' : World} (h : KeepsFrom B A W) (hb : Below W.heap.size W W') : KeepsFrom B A W' :=
  ⟨Nat.le_trans h.size hb.size, fun k o hk ho hn => have h1 := h.same k o hk ho hn; (hb.block k (Array.getElem?_eq_some_iff.1 h1).1).trans h1⟩

theorem keepsFrom_mono {B B' : Nat} {A W : World} (h : KeepsFrom B A W) (hB : B ≤ B') : KeepsFrom B' A W := ⟨h.size, fun k o hk ho hn => h.same k o (Nat.le_trans hB hk) ho hn⟩
theorem KC.cell {nb : Nat} {W W' : World} (k : KC nb W W') {q : Addr} {v : Value} (hq : q.block ≠ nb) (h : W.cell? q = some v) : W'.cell? q = some v := by
  have hb := World.block_lt_of_cell? W _ h
  have ho : W.heap[q.block]? = some W.heap[q.block] := Array.getElem?_eq_getElem hb
  have hc : (W.heap[q.block]).isCells = true := by
    unfold World.cell? at h
    rw [ho] at h
    cases e : W.heap[q.block] <;> rw [e] at h <;> simp [Obj.isCells] at h ⊢
  exact (World.cell?_of_block ((k.same _ _ hq ho hc).trans ho.symm)).trans h

section seq
variable {F : Fence} {n : Nat}
def SeqRunO (F : Fence) (n : Nat) (P : Program) (g : Nat) (lb : Array Value) (xs : List (Array Value)) (K : World → World → Prop) (w : World) : Prop :=
  ∀ (l : Nat) (J : Nat → World → Prop) (W : World), Below w.heap.size w W → OwnFrom W.heap.size J →
    (∀ (i : Nat) (hi : i < xs.length) (W1 : World), J i W1 → YieldAt F (n - 1) P l xs[i] W1 fun e W' => e = .returned (.bool true) ∧ J (i + 1) W' ∧ K W1 W') →
    J 0 W → CallsIn F n P g (#[.func (.yield l) #[] #[]] ++ lb) W fun e W' => (∃ v, e = .returned v) ∧ J xs.length W'
theorem SeqRunO.inRound {g : Nat} {lb : Array Value} {xs : List (Array Value)} {K : World → World → Prop} {w : World} (l : Nat) (h : SeqRunO F n P g lb xs K w) : SeqRunO (F.inRound l) n P g lb xs K w := h
theorem room_of_none {F : Fence} (hd : F.depth = none) (k : Nat) : F.room k := fun d h => by rw [hd] at h; cases h
theorem RoundIn.anyDepth {F : Fence} (hd : F.depth = none) {m m' : Nat} {P : Program} {l : Nat} {f : FuncId} {tmps : Array Value} {assign body : Code} {w : World} {R : Ending → World → Prop}
    (h : RoundIn F m P l f tmps assign body w R) : RoundIn F m' P l f tmps assign body w R := ⟨h.1, fun c cs _ => h.2 c cs (room_of_none hd _)⟩
theorem RoundIn.inRound {m : Nat} {P : Program} {l : Nat} {f : FuncId} {tmps : Array Value} {assign body : Code} {w : World} {R : Ending → World → Prop} (k : Nat) (h : RoundIn F m P l f tmps assign body w R) : RoundIn (F.inRound k) m P l f tmps assign body w R := h
theorem YieldAt.anyDepth {F : Fence} (hd : F.depth = none) {m : Nat} (m' : Nat) {P : Program} {l : Nat} {args : Array Value} {W : World} {R : Ending → World → Prop} (h : YieldAt F m P l args W R) : YieldAt F m' P l args W R := by
  obtain ⟨fn, tmps, assign, body, hy, hR⟩ := h
  exact ⟨fn, tmps, assign, body, hy, RoundIn.anyDepth hd hR⟩

theorem wpIn_rangeSeqH {g : Operand} {ps : Array Tmp} {assign body : Code} {Q : Exit → Act → World → Prop} {a : Act} {w : World}
    (hro : F.round = none) (h1 : 1 ≤ n) {gf : Nat} {lb : Array Value} (hg : a.eval g = .func (.func gf) #[] lb) (hFg : F.fn gf) (eg : ∀ args w, (callFunc gf args).run P w = .ok (.enter gf args) w)
    {xs : List (Array Value)} {K : World → World → Prop} {w0 : World} (hseq : SeqRunO F (n - 1) P gf lb xs K w0)
    (hKt : ∀ {A B C : World}, K A B → K B C → K A C) (hKb : ∀ (W : World) (l : Nat) (o o' : Obj), w.heap.size ≤ l → l < w.heap.size + 2 → W.heap[l]? = some o → o.isCells = false → o.isWalk = false → K W (W.putObj l o')) (hb0 : Below w0.heap.size w0 w) (hps : ∀ x ∈ xs, x.size = ps.size)
    (I : Nat → World → Prop) (hI : OwnFrom w.heap.size I) (h0 : I 0 w) (Ax : Nat → Act → World → Prop) (hAx : ∀ i a', OwnFrom w.heap.size (fun (_ : Unit) W => Ax i a' W))
    (hassign : ∀ (l i : Nat) (hi : i < xs.length) (W : World) (K' : Act → World → Prop), I i W → (∀ a' W', KeepsFrom w.heap.size W W' → K W W' → I i W' → Ax i a' W' → K' a' W') →
      assign.wpIn (F.inRound l) (n - 1 - 1) P (Exit.then K' (fun _ _ _ => False)) { tmps := (ps.zip xs[i]).foldl (fun t (p, v) => t.setIfInBounds p v) a.tmps, defers := [] } W)
    (hbody : ∀ (l i : Nat) (a' : Act) (W : World), i < xs.length → w.heap.size ≤ l → (∃ r, W.heap[l]? = some (.loop r)) → I i W → Ax i a' W → body.wpIn (F.inRound l) (n - 1 - 1) P (OnPost w.heap.size K (I (i + 1)) W) a' W)
    (hdone : ∀ (D : Nat) (W : World), w.heap.size ≤ D → I xs.length W → W.heap[D]? = some (.deferred (some [])) → Q .normal { a with defers := { target := .collected D, args := #[] } :: a.defers } W) :
    (Code.rangeFunc g ps assign body).wpIn F n P Q a w := by
  refine wpIn_rangeFunc ?_
  intro fn hfn
  rw [hro]
  obtain ⟨rec, hrec⟩ : ∃ rec : LoopState → Option Code → Loop, rec = fun st pe => { state := st, pending := pe, fn, tmps := a.tmps, params := ps, assign, body, defers := w.heap.size } := ⟨_, rfl⟩
  obtain ⟨W1, hW1⟩ : ∃ W1, (w.alloc (.deferred (some []))).alloc (.loop (rec .ready none)) = W1 := ⟨_, rfl⟩
  have hsz : W1.heap.size = w.heap.size + 2 := by rw [← hW1]; simp
  have hL1 : W1.heap[w.heap.size + 1]? = some (.loop (rec .ready none)) := by
    rw [← hW1]; have := World.alloc_heap_new (w.alloc (.deferred (some []))) (.loop (rec .ready none)); rwa [World.size_alloc] at this
  have hD1 : W1.heap[w.heap.size]? = some (.deferred (some [])) := by
    rw [← hW1]; exact (Below.heap_alloc _ _ _ (by simp)).trans (World.alloc_heap_new w _)
  have hI1 : I 0 W1 := by rw [← hW1]; exact hI.alloc _ (hI.alloc _ h0)
  have hb1 : Below w0.heap.size w0 W1 := by
    rw [← hW1]; exact hb0.trans ((((Below.refl _ w).alloc (Nat.le_refl _) _).alloc (by simp) _).mono hb0.size)
  refine ⟨w.heap.size + 1, [{ target := .collected w.heap.size, args := #[] }], W1, { target := .fn (.func gf) lb, args := #[.func (.yield (w.heap.size + 1)) #[] #[]] }, W1, gf,
    #[.func (.yield (w.heap.size + 1)) #[] #[]] ++ lb, W1, ?_, ?_, ?_, ?_, fun _ => h1, ?_⟩
  · rw [← hW1, hrec]; exact run_enterLoop_outer _ _ _ _ _
  · simp only [resolve, hg]
    simp [go_sem]
  · intro f' hf'; simp [Target.leads] at hf'; subst hf'; exact hFg
  · simp [invoke, go_sem, eg]
  · have hab : OwnFrom W1.heap.size (fun i W => I i W ∧ W.heap[w.heap.size + 1]? = some (.loop (rec .ready none)) ∧ W.heap[w.heap.size]? = some (.deferred (some []))) := by
      intro s A B row hs hg' hr
      have hr' : ∀ r, row = some r → w.heap.size ≤ r ∧ ∃ o : Obj, A.heap[r]? = some o ∧ o.isCells = false := fun r e => ⟨by have := (hr r e).1; omega, (hr r e).2⟩
      refine ⟨hI s A B row hs.1 hg' hr', (hg'.block _ (Array.getElem?_eq_some_iff.1 hs.2.1).1 (fun e => by have := (hr _ e.symm).1; omega)).trans hs.2.1, (hg'.block _ (Array.getElem?_eq_some_iff.1 hs.2.2).1 (fun e => by have := (hr _ e.symm).1; omega)).trans hs.2.2⟩
    refine (hseq (w.heap.size + 1) _ W1 hb1 hab ?_ ⟨hI1, hL1, hD1⟩).mono ?_
    · rintro i hi W ⟨hIi, hl, hk⟩
      have hy := run_yield (P := P) (args := xs[i]) hl (by rw [hrec]; exact hps _ (List.getElem_mem hi))
      rw [hrec] at hy
      refine ⟨fn, _, assign, body, hy, roundIn_of_wpIn hfn (hassign _ i hi W _ hIi ?_)⟩
      clear hy
      intro a' Wa hkfa hkpa hia hax
      replace hl := hkfa.same _ _ (by omega) hl rfl
      replace hk := hkfa.same _ _ (Nat.le_refl _) hk rfl
      replace hIi := hia
      clear hia
      revert hkpa hkfa
      generalize W = Wb
      intro hkfa hkpa
      obtain ⟨W, rfl⟩ : ∃ W, W = Wa := ⟨_, rfl⟩
      have hlt : w.heap.size + 1 < W.heap.size := (Array.getElem?_eq_some_iff.1 hl).1
      refine ⟨_, run_beginRound hl (by rw [hrec]), ?_⟩
      have hl2 : (W.putObj (w.heap.size + 1) (.loop { rec .ready none with state := .busy })).heap[w.heap.size + 1]? = some (.loop { rec .ready none with state := .busy }) := World.putObj_heap_same hlt
      have hk2 : (W.putObj (w.heap.size + 1) (.loop { rec .ready none with state := .busy })).heap[w.heap.size]? = some (.deferred (some [])) := (World.putObj_heap_other (by omega)).trans hk
      have hw2 : K W (W.putObj (w.heap.size + 1) (.loop { rec .ready none with state := .busy })) := hKb _ _ _ _ (by omega) (by omega) hl rfl rfl
      refine wpIn_mono (hbody _ i a' _ hi (by omega) ⟨_, hl2⟩ (hI.putObj _ hIi (by omega) hl rfl) ((hAx i a').putObj (s := ()) _ hax (by omega) hl rfl)) ?_
      rintro e a3 W3 hp
      cases e with
      | normal =>
        obtain ⟨hk3, hkp3, hi3⟩ := hp
        have hl3 := hk3.same _ _ (by omega) hl2 rfl
        have hr3 := run_endRound (P := P) none hl3
        have hl4 : (W3.putObj (w.heap.size + 1) (.loop (rec .ready none))).heap[w.heap.size + 1]? = some (.loop (rec .ready none)) := World.putObj_heap_same (Array.getElem?_eq_some_iff.1 hl3).1
        have hk4 : (W3.putObj (w.heap.size + 1) (.loop (rec .ready none))).heap[w.heap.size]? = some (.deferred (some [])) := (World.putObj_heap_other (by omega)).trans (hk3.same _ _ (Nat.le_refl _) hk2 rfl)
        refine ⟨_, W3.putObj (w.heap.size + 1) (.loop (rec .ready none)), ?_, rfl, ⟨hI.putObj _ hi3 (by omega) hl3 rfl, hl4, hk4⟩, hKt hkpa (hKt (hKt hw2 hkp3) (hKb _ _ _ _ (by omega) (by omega) hl3 rfl rfl))⟩
        rw [hrec] at hr3 ⊢
        exact hr3
      | _ => exact hp.elim
    · rintro e W2 ⟨⟨v, rfl⟩, hi, hl, hk⟩
      exact ⟨none, _, by have := run_endLoop (P := P) hl (by rw [hrec]; simp); rw [hrec] at this; exact this, hdone _ _ (Nat.le_refl _) (hI.putObj _ hi (by omega) hl rfl) ((World.putObj_heap_other (by omega)).trans hk)⟩

theorem wpIn_rangeSeqN {g : Operand} {ps : Array Tmp} {assign body : Code} {Q : Exit → Act → World → Prop} {a : Act} {w : World}
    {l₀ : Nat} {r₀ : Loop} (hro : F.round = some l₀) (hl₀ : w.heap[l₀]? = some (.loop r₀)) (h1 : 1 ≤ n) {gf : Nat} {lb : Array Value} (hg : a.eval g = .func (.func gf) #[] lb) (hFg : F.fn gf) (eg : ∀ args w, (callFunc gf args).run P w = .ok (.enter gf args) w)
    {xs : List (Array Value)} {K : World → World → Prop} {w0 : World} (hseq : SeqRunO F (n - 1) P gf lb xs K w0)
    (hKt : ∀ {A B C : World}, K A B → K B C → K A C) (hKb : ∀ (W : World) (l : Nat) (o o' : Obj), w.heap.size ≤ l → W.heap[l]? = some o → o.isCells = false → o.isWalk = false → K W (W.putObj l o')) (hb0 : Below w0.heap.size w0 w) (hps : ∀ x ∈ xs, x.size = ps.size)
    (I : Nat → World → Prop) (hI : OwnFrom w.heap.size I) (h0 : I 0 w) (a₁ : Nat → Act)
    (hassign : ∀ (l i : Nat) (hi : i < xs.length) (W : World) (K' : Act → World → Prop), K' (a₁ i) W →
      assign.wpIn (F.inRound l) (n - 1 - 1) P (Exit.then K' (fun _ _ _ => False)) { tmps := (ps.zip xs[i]).foldl (fun t (p, v) => t.setIfInBounds p v) a.tmps, defers := [] } W)
    (hbody : ∀ (l i : Nat) (W : World), i < xs.length → I i W → body.wpIn (F.inRound l) (n - 1 - 1) P (OnPost w.heap.size K (I (i + 1)) W) (a₁ i) W)
    (hdone : ∀ (W : World), I xs.length W → Q .normal a W) :
    (Code.rangeFunc g ps assign body).wpIn F n P Q a w := by
  refine wpIn_rangeFunc ?_
  intro fn hfn
  rw [hro]
  obtain ⟨rec, hrec⟩ : ∃ rec : LoopState → Option Code → Loop, rec = fun st pe => { state := st, pending := pe, fn, tmps := a.tmps, params := ps, assign, body, defers := r₀.defers } := ⟨_, rfl⟩
  obtain ⟨W1, hW1⟩ : ∃ W1, w.alloc (.loop (rec .ready none)) = W1 := ⟨_, rfl⟩
  have hsz : W1.heap.size = w.heap.size + 1 := by rw [← hW1]; simp
  have hL1 : W1.heap[w.heap.size]? = some (.loop (rec .ready none)) := by rw [← hW1]; exact World.alloc_heap_new w _
  have hI1 : I 0 W1 := by rw [← hW1]; exact hI.alloc _ h0
  have hb1 : Below w0.heap.size w0 W1 := by
    rw [← hW1]; exact hb0.trans (((Below.refl _ w).alloc (Nat.le_refl _) _).mono hb0.size)
  refine ⟨w.heap.size, [], W1, { target := .fn (.func gf) lb, args := #[.func (.yield w.heap.size) #[] #[]] }, W1, gf,
    #[.func (.yield w.heap.size) #[] #[]] ++ lb, W1, ?_, ?_, ?_, ?_, fun _ => h1, ?_⟩
  · rw [← hW1, hrec]; exact run_enterLoop_inner hl₀ _ _ _ _ _
  · simp only [resolve, hg]
    simp [go_sem]
  · intro f' hf'; simp [Target.leads] at hf'; subst hf'; exact hFg
  · simp [invoke, go_sem, eg]
  · have hab : OwnFrom W1.heap.size (fun i W => I i W ∧ W.heap[w.heap.size]? = some (.loop (rec .ready none))) := by
      intro s A B row hs hg' hr
      have hr' : ∀ r, row = some r → w.heap.size ≤ r ∧ ∃ o : Obj, A.heap[r]? = some o ∧ o.isCells = false := fun r e => ⟨by have := (hr r e).1; omega, (hr r e).2⟩
      exact ⟨hI s A B row hs.1 hg' hr', (hg'.block _ (Array.getElem?_eq_some_iff.1 hs.2).1 (fun e => by have := (hr _ e.symm).1; omega)).trans hs.2⟩
    refine (hseq w.heap.size _ W1 hb1 hab ?_ ⟨hI1, hL1⟩).mono ?_
    · rintro i hi W ⟨hIi, hl⟩
      have hy := run_yield (P := P) (args := xs[i]) hl (by rw [hrec]; exact hps _ (List.getElem_mem hi))
      rw [hrec] at hy
      have hlt : w.heap.size < W.heap.size := (Array.getElem?_eq_some_iff.1 hl).1
      refine ⟨fn, _, assign, body, hy, roundIn_of_wpIn hfn (hassign _ i hi W _ ⟨_, run_beginRound hl (by rw [hrec]), ?_⟩)⟩
      have hl2 : (W.putObj w.heap.size (.loop { rec .ready none with state := .busy })).heap[w.heap.size]? = some (.loop { rec .ready none with state := .busy }) := World.putObj_heap_same hlt
      have hw2 : K W (W.putObj w.heap.size (.loop { rec .ready none with state := .busy })) := hKb _ _ _ _ (Nat.le_refl _) hl rfl rfl
      refine wpIn_mono (hbody _ i _ hi (hI.putObj _ hIi (Nat.le_refl _) hl rfl)) ?_
      rintro e a3 W3 hp
      cases e with
      | normal =>
        obtain ⟨hk3, hkp3, hi3⟩ := hp
        have hl3 := hk3.same _ _ (Nat.le_refl _) hl2 rfl
        have hr3 := run_endRound (P := P) none hl3
        have hl4 : (W3.putObj w.heap.size (.loop (rec .ready none))).heap[w.heap.size]? = some (.loop (rec .ready none)) := World.putObj_heap_same (Array.getElem?_eq_some_iff.1 hl3).1
        refine ⟨_, W3.putObj w.heap.size (.loop (rec .ready none)), ?_, rfl, ⟨hI.putObj _ hi3 (Nat.le_refl _) hl3 rfl, hl4⟩, hKt (hKt hw2 hkp3) (hKb _ _ _ _ (Nat.le_refl _) hl3 rfl rfl)⟩
        rw [hrec] at hr3 ⊢
        exact hr3
      | _ => exact hp.elim
    · rintro e W2 ⟨⟨v, rfl⟩, hi, hl⟩
      exact ⟨none, _, by have := run_endLoop (P := P) hl (by rw [hrec]; simp); rw [hrec] at this; exact this, hdone _ (hI.putObj _ hi (Nat.le_refl _) hl rfl)⟩
end seq
end Go.Proofs.YtbjeemlbjkmhiaaDoor

/- Rounds enough: what a function with a number of rounds answers from some number on. Small arithmetic of machine words. -/
import Derived.Test.YtjjjoepnlhpjdaaDoorPol
import Derived.Test.YtjjjoepnlhpjdaaDoorQ0
namespace Go.Proofs.YtjjjoepnlhpjdaaDoor.Pure
open Go.RowKit Go.Proofs.YtjjjoepnlhpjdaaDoor.Q Go.Proofs.YtjjjoepnlhpjdaaDoor.Num Go.Proofs.YtjjjoepnlhpjdaaDoor.Pol Go.Proofs.YtjjjoepnlhpjdaaDoorW.PrintWords Go.Proofs.YtjjjoepnlhpjdaaDoorW.PrintLast Go.Proofs.YtjjjoepnlhpjdaaDoorW.PrintMore

def Ev {α : Type} (F : Nat → Option α) (v : α) : Prop := ∃ K, ∀ k, K ≤ k → F k = some v
theorem Ev.all {α : Type} {F : Nat → Option α} {v : α} (h : ∀ k, F k = some v) : Ev F v := ⟨0, fun k _ => h k⟩
theorem Ev.mk {α : Type} {F : Nat → Option α} {v : α} (K : Nat) (h : ∀ k, K ≤ k → F k = some v) : Ev F v := ⟨K, h⟩
theorem Ev.get {α : Type} {F : Nat → Option α} {v : α} (h : Ev F v) : ∃ K, ∀ k, K ≤ k → F k = some v := h
theorem Ev.ex {α : Type} {F : Nat → Option α} {v : α} (h : Ev F v) : ∃ k, F k = some v := let ⟨K, hK⟩ := h; ⟨K, hK K (Nat.le_refl _)⟩
theorem Ev.succ {α : Type} {F G : Nat → Option α} {v : α} (h : ∀ k, G (k + 1) = F k) (hF : Ev F v) : Ev G v := by
  obtain ⟨K, hK⟩ := hF
  refine ⟨K + 1, fun k hk => ?_⟩
  obtain ⟨j, rfl⟩ : ∃ j, k = j + 1 := ⟨k - 1, by omega⟩
  rw [h]
  exact hK j (by omega)
theorem Ev.congr {α : Type} {F G : Nat → Option α} {v : α} (h : ∀ k, G k = F k) (hF : Ev F v) : Ev G v := by
  obtain ⟨K, hK⟩ := hF
  exact ⟨K, fun k hk => (h k).trans (hK k hk)⟩
theorem Ev.bind {α β : Type} {F : Nat → Option α} {G : Nat → α → Option β} {a : α} {b : β} (hF : Ev F a) (hG : Ev (fun k => G k a) b) : Ev (fun k => (F k).bind (G k)) b := by
  obtain ⟨K, hK⟩ := hF
  obtain ⟨L, hL⟩ := hG
  refine ⟨max K L, fun k hk => ?_⟩
  show (F k).bind (G k) = some b
  rw [hK k (by omega)]
  exact hL k (by omega)
theorem Ev.of_mono {α : Type} {F : Nat → Option α} {v : α} (hm : ∀ k, LeO (F k) (F (k + 1))) {K : Nat} (h : F K = some v) : Ev F v := by
  refine ⟨K, fun k hk => ?_⟩
  obtain ⟨d, rfl⟩ : ∃ d, k = K + d := ⟨k - K, by omega⟩
  clear hk
  induction d with
  | zero => exact h
  | succ d ih => exact hm _ _ ih
theorem Ev.uniq {α : Type} {F : Nat → Option α} {v w : α} (h : Ev F v) (g : Ev F w) : v = w := by
  obtain ⟨K, hK⟩ := h
  obtain ⟨L, hL⟩ := g
  exact Option.some.inj ((hK (max K L) (by omega)).symm.trans (hL (max K L) (by omega)))

/-- A machine word without sign; a list of such. -/
def U (x : Int) : Prop := 0 ≤ x ∧ x < 18446744073709551616
def UL (l : List Int) : Prop := ∀ c ∈ l, U c
theorem U.zero : U 0 := by unfold U; omega
theorem U.of_wf {x : Int} (h : (Lit.int .u64 x).wf = true) : U x := by
  simp [Lit.wf, IntKind.min, IntKind.max, IntKind.bits, IntKind.signed] at h
  unfold U; omega
theorem U.co {l : List Int} (h : UL l) (i : Nat) : U (co l i) := by
  by_cases hi : i < l.length
  · exact h _ (co_mem hi)
  · rw [co_over (by omega)]; exact U.zero
theorem UL.nil : UL [] := fun _ h => by simp at h
theorem UL.cons {c : Int} {l : List Int} (h : U c) (g : UL l) : UL (c :: l) := fun x hx => (List.mem_cons.1 hx).elim (fun e => e ▸ h) (g x)
theorem UL.append {a b : List Int} (h : UL a) (g : UL b) : UL (a ++ b) := fun x hx => (List.mem_append.1 hx).elim (h x) (g x)
theorem UL.take {a : List Int} (h : UL a) (n : Nat) : UL (a.take n) := fun _ hx => h _ (List.mem_of_mem_take hx)
theorem UL.replicate (n : Nat) : UL (List.replicate n 0) := fun x hx => by rw [(List.mem_replicate.1 hx).2]; exact U.zero
theorem UL.set {a : List Int} (h : UL a) {x : Int} (hx : U x) (i : Nat) : UL (a.set i x) := fun y hy => by
  rcases List.mem_or_eq_of_mem_set hy with hy | rfl
  · exact h _ hy
  · exact hx
theorem UL.of_wf {l : List Int} (h : ∀ x ∈ l, (Lit.int .u64 x).wf = true) : UL l := fun x hx => U.of_wf (h x hx)

theorem w64 {n : Int} (h1 : -9223372036854775808 ≤ n) (h2 : n ≤ 9223372036854775807) : wrap64 n = n := by unfold wrap64; omega
theorem w64_succ {i : Nat} (h : i < 9223372036854775807) : wrap64 ((i : Int) + 1) = ((i + 1 : Nat) : Int) := by rw [w64 (by omega) (by omega)]; omega
theorem wu64 {n : Int} (h1 : 0 ≤ n) (h2 : n < 18446744073709551616) : IntKind.u64.wrap n = n := by rw [IntKind.wrap_u64]; omega
theorem rd_nat (l : List Int) (i : Nat) : rd l (i : Int) = co l i := by simp [rd, co]
theorem co_set {l : List Int} {i : Nat} (h : i < l.length) (x : Int) (j : Nat) : co (l.set i x) j = if j = i then x else co l j := by
  unfold co
  rw [List.getD_eq_getElem?_getD, List.getD_eq_getElem?_getD, List.getElem?_set]
  by_cases e : i = j
  · subst e; simp [h]
  · simp [e, Ne.symm e]
theorem co_set_same {l : List Int} {i : Nat} (h : i < l.length) (x : Int) : co (l.set i x) i = x := by rw [co_set h]; simp
theorem co_set_ne {l : List Int} {i j : Nat} (h : i < l.length) (x : Int) (e : j ≠ i) : co (l.set i x) j = co l j := by rw [co_set h]; simp [e]
theorem co_replicate (n i : Nat) : co (List.replicate n 0) i = 0 := by
  by_cases h : i < n
  · rw [co_lt (by simpa using h)]; simp
  · exact co_over (by simpa using h)
theorem co_append (a b : List Int) (i : Nat) : co (a ++ b) i = if i < a.length then co a i else co b (i - a.length) := by
  unfold co
  rw [List.getD_eq_getElem?_getD, List.getElem?_append]
  split <;> simp
theorem co_take (a : List Int) (n i : Nat) : co (a.take n) i = if i < n then co a i else 0 := by
  unfold co
  rw [List.getD_eq_getElem?_getD, List.getElem?_take]
  split <;> simp
theorem ext_co {a b : List Int} (hl : a.length = b.length) (h : ∀ i, i < a.length → co a i = co b i) : a = b := by
  refine List.ext_getElem hl fun i h1 h2 => ?_
  have := h i h1
  rwa [co_lt h1, co_lt h2] at this
end Go.Proofs.YtjjjoepnlhpjdaaDoor.Pure

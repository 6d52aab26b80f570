/- A parameter that is a list of lists of numbers: opened, with what it weighs. -/
import Derived.Test.YtbjeemlbjkmhiaaDoorWWords
import Derived.Deep.Matrix
import Derived.SizedLaws
namespace Go.Proofs.YtbjeemlbjkmhiaaDoor
open Go.ChangeShapes Go.WideShapes Go.Proofs.YtbjeemlbjkmhiaaDoorW.PrintWords

theorem weightsAll_mem {H : Type} {P : Program} {e : TypeId} {f : Nat → Bool} : ∀ {ds : List (DataW H)} {d : DataW H}, d ∈ ds → (DataW.weightsAll P e ds).all f = true → (d.weights P e).all f = true
  | x :: r, d, hd, h => by
    rw [DataW.weightsAll, List.all_append, Bool.and_eq_true] at h
    rcases List.mem_cons.1 hd with rfl | hd
    · exact h.1
    · exact weightsAll_mem hd h.2
theorem rows_open {H : Type} {enc : TypeId × Value → H} {P : Program} {W : World} {t e q : TypeId} {k : IntKind} {fuel : Nat} {c : Value} {x : DataW H × List MemPlace} (ht : P.underlying t = some (.slice e)) (he : P.underlying e = some (.slice q)) (hq : P.underlying q = some (.int k)) (ce : P.cellsOf e = 1) (cq : P.cellsOf q = 1) (hB : P.bytesOf q = 8)
    (h : DataW.trod enc P W 0 (fun _ => true) true fuel t [c] = some x) (hsz : (DataW.weights P t x.1).all (· ≤ reachBytes) = true) :
    ∃ (a : Option Addr) (l : List (List Int)) (cap : Nat), c = .slice a l.length cap ∧ l.length ≤ cap ∧ Kd.C (Kd.slice q (Kd.int k)) W a l.length l ∧ ∀ r ∈ l, r.length * 8 ≤ 140737488351232 ∧ ∀ z ∈ r, (Lit.int k z).wf = true := by
  rcases Go.Deep.open_int_rows ht he hq ce cq h with ⟨hcs, _⟩ | ⟨a, len, cap, A, L, C, Z, hcs, _, hl, hm, hx, hr⟩
  · exact ⟨none, [], 0, by simpa using hcs, Nat.le_refl _, ⟨rfl, by decide, fun h0 => absurd h0 (Nat.lt_irrefl _)⟩, fun r hr => by simp at hr⟩
  · have hLZ : ∀ r, r < cap → ((Z r).take (L r)).length = L r := fun r hrc => by
      obtain ⟨_, h1, _, h3, _⟩ := hr r hrc
      rw [List.length_take]; omega
    refine ⟨some a, (List.range len).map fun r => (Z r).take (L r), cap, by simpa using hcs, by simpa using hl, ⟨rfl, ?_, fun _ => ⟨a, rfl, fun j p hj => ?_⟩⟩, fun r hrm => ?_⟩
    · rw [List.length_map, List.length_range]
      exact Nat.le_trans (Nat.le_trans hl hm) (by decide)
    · obtain ⟨hj1, hj2⟩ := List.getElem?_eq_some_iff.1 hj
      rw [List.length_map, List.length_range] at hj1
      have hp : p = (Z j).take (L j) := by rw [← hj2]; simp
      obtain ⟨g1, g2, g3, g4, g5, g6, g7⟩ := hr j (by omega)
      have lp : p.length = L j := by rw [hp]; exact hLZ j (by omega)
      refine ⟨[.slice (A j) p.length (C j)], rfl, ⟨A j, C j, rfl, by omega, Kd.C_of_reads (d := (0 : Int)) (h1 := fun _ => rfl) ⟨rfl, ?_, fun hn => ?_⟩⟩, fun i u hu => ?_⟩
      · rw [lp]; exact Nat.le_trans (Nat.le_trans g2 g3) (by decide)
      · cases hA : A j with
        | none => have := g6 hA; omega
        | some a' =>
          refine ⟨a', rfl, fun c hc => ?_⟩
          rw [(g7 a' hA).2 c (by omega), hp]
          congr 2
          rw [List.getD_eq_getElem?_getD, List.getD_eq_getElem?_getD, List.getElem?_take, if_pos (by omega)]
      · cases i with
        | zero =>
          have : Value.slice (A j) p.length (C j) = u := by simpa using hu
          subst this
          rw [lp]
          simpa [Kd.slice] using g1
        | succ i => simp at hu
    · obtain ⟨j, hj, rfl⟩ := List.mem_map.1 hrm
      have hj := List.mem_range.1 hj
      obtain ⟨g1, g2, g3, g4, g5, g6, g7⟩ := hr j (by omega)
      refine ⟨?_, fun z hz => g5 z (List.mem_of_mem_take hz)⟩
      rw [hx] at hsz
      simp only [DataW.weights, ht, List.all_cons, List.all_append, Bool.and_eq_true] at hsz
      have hw := weightsAll_mem (d := Go.Deep.intRow k (A j) (L j) (Z j)) (List.mem_map.2 ⟨j, List.mem_range.2 hj, rfl⟩) hsz.2.1
      rw [hLZ j (by omega)]
      cases hA : A j with
      | none => have := g6 hA; omega
      | some a' =>
        rw [hA] at hw
        simp only [Go.Deep.intRow, DataW.weights, he, hB, List.all_cons, Bool.and_eq_true, decide_eq_true_eq] at hw
        have h1 : (lits (H := H) k ((Z j).take (L j))).length = L j := by rw [lits, List.length_map]; exact hLZ j (by omega)
        have hw1 := hw.1
        rw [h1] at hw1
        exact Nat.le_trans (Nat.mul_le_mul_right 8 (Nat.le_add_right (L j) _)) hw1
end Go.Proofs.YtbjeemlbjkmhiaaDoor

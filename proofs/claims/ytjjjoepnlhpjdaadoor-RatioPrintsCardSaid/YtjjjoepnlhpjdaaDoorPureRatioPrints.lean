/- Parse of Text and Read of Show return the number; a text of decimal digits is the text of its number. -/
import Derived.Test.YtjjjoepnlhpjdaaDoorTxt4
import Derived.Test.YtjjjoepnlhpjdaaDoorRWorks
import Derived.Test.YtjjjoepnlhpjdaaDoorQ15
namespace Go.Proofs.YtjjjoepnlhpjdaaDoor.Pure
open Go.RowKit Go.Proofs.YtjjjoepnlhpjdaaDoor.Q Go.Proofs.YtjjjoepnlhpjdaaDoor.Num Go.Proofs.YtjjjoepnlhpjdaaDoor.Pol Go.Proofs.YtjjjoepnlhpjdaaDoorW.PrintWords Go.Proofs.YtjjjoepnlhpjdaaDoorW.PrintLast Go.Proofs.YtjjjoepnlhpjdaaDoorW.PrintMore

theorem pow10_le {n m : Nat} (h : n ≤ m) : (10 : Int) ^ n ≤ 10 ^ m := by
  have : (10 : Nat) ^ n ≤ 10 ^ m := Nat.pow_le_pow_right (by decide) h
  exact_mod_cast this
theorem bd600 {l : List Int} (hd : Dt l) (hl : l.length ≤ 600) : 0 ≤ nv 0 l ∧ nv 0 l < Bp 64 := by
  have e : nv 0 l = rv l.reverse := by rw [← nv_reverse, List.reverse_reverse]
  have hd2 : Dt l.reverse := fun x hx => hd x (List.mem_reverse.1 hx)
  have h1 := nv_bound hd2
  rw [List.length_reverse] at h1
  have h4 : (10 : Int) ^ 600 < Bp 64 := by decide +kernel
  rw [e]
  exact ⟨rv_nonneg hd2, Int.lt_of_lt_of_le h1 (Int.le_trans (pow10_le hl) (Int.le_of_lt h4))⟩
theorem j3_half {l : List Int} (hd : Dt l) (hc : Ct l) (hl : l.length ≤ 600) : Ev (fun k => (ratio_Parse.f k (strOfNums l)).bind fun bt => if bt.2 = 0 then ((ratio_Text.f k bt.1).bind fun t => if t.toList = (strOfNums l).toList then ((attestorlaw02_works.f k).bind fun t730 => some t730) else none) else none) true := by
  have b := bd600 hd hl
  have t := s_Text b
  rw [tx_nv hd hc] at t
  refine (s_Parse hd hc (by omega) b.2).bind ?_
  refine Ev.congr (fun k => if_pos rfl) ?_
  refine t.bind ?_
  refine Ev.congr (fun k => if_pos rfl) ?_
  exact s_works.bind (Ev.all fun _ => rfl)
theorem prints_j3 {l : List Int} (hd : Dt l) (hc : l = [] ∨ l.head? ≠ some 48) (hl : l.length ≤ 600) : Ev (fun k => attestorlaw02_RatioPrints.j3 k l) true := by
  rcases hc with rfl | hc
  · refine Ev.succ (fun k => ?_) (j3_half (l := [48]) (fun x hx => by simp at hx; omega) (Or.inl rfl) (by decide))
    rw [attestorlaw02_RatioPrints.j3, if_pos (show ((([] : List Int).length : Nat) : Int) = 0 from rfl), Option.bind_some]
  · by_cases c : l = []
    · rw [c]
      refine Ev.succ (fun k => ?_) (j3_half (l := [48]) (fun x hx => by simp at hx; omega) (Or.inl rfl) (by decide))
      rw [attestorlaw02_RatioPrints.j3, if_pos (show ((([] : List Int).length : Nat) : Int) = 0 from rfl), Option.bind_some]
    · have hp : 0 < l.length := List.length_pos_iff.2 c
      refine Ev.succ (fun k => ?_) (j3_half hd (Or.inr ⟨c, hc⟩) hl)
      rw [attestorlaw02_RatioPrints.j3, if_neg (by omega)]
theorem prints_l {x : List Int} (hx : ∀ i, 0 ≤ co x i ∧ co x i < 256) : ∀ (d i : Nat) (l : List Int), i + d = x.length → l.length ≤ i → l.length ≤ 600 → Dt l → (l = [] ∨ l.head? ≠ some 48) → Ev (fun k => attestorlaw02_RatioPrints.l0 k x l (i : Int)) true := by
  intro d
  induction d with
  | zero =>
    intro i l hi _ hl hd hc
    refine Ev.succ (fun k => ?_) (prints_j3 hd hc hl)
    rw [attestorlaw02_RatioPrints.l0, if_neg (by omega)]
  | succ d ih =>
    intro i l hi hli hl hd hc
    by_cases c : i < 600
    · have g := hx i
      have e : (48 + Int.tmod (co x i) 10) % 256 = 48 + co x i % 10 := by rw [Int.tmod_eq_emod_of_nonneg g.1]; omega
      have w := w64_succ (i := i) (by omega)
      have ld : Dt (l ++ [48 + co x i % 10]) := by
        intro y hy
        rcases List.mem_append.1 hy with hy | hy
        · exact hd y hy
        · rw [List.mem_singleton] at hy
          omega
      have ll : (l ++ [48 + co x i % 10]).length = l.length + 1 := by rw [List.length_append, List.length_singleton]
      have step := fun (h : l ++ [48 + co x i % 10] = [] ∨ (l ++ [48 + co x i % 10]).head? ≠ some 48) => ih (i + 1) (l ++ [48 + co x i % 10]) (by omega) (by omega) (by omega) ld h
      by_cases c2 : 48 + co x i % 10 = 48
      · by_cases c3 : (l.length : Int) > 0
        · refine Ev.succ (fun k => ?_) (step (Or.inr ?_))
          · rw [attestorlaw02_RatioPrints.l0, if_pos (by omega), if_pos (by omega), if_pos (by omega), rd_nat, e, if_pos c2, if_pos c3, if_pos (by omega), w]
          · cases l with
            | nil => simp at c3
            | cons y t => exact hc.resolve_left (by simp)
        · refine Ev.succ (fun k => ?_) (ih (i + 1) l (by omega) (by omega) hl hd hc)
          rw [attestorlaw02_RatioPrints.l0, if_pos (by omega), if_pos (by omega), if_pos (by omega), rd_nat, e, if_pos c2, if_neg c3, w]
      · refine Ev.succ (fun k => ?_) (step (Or.inr ?_))
        · rw [attestorlaw02_RatioPrints.l0, if_pos (by omega), if_pos (by omega), if_pos (by omega), rd_nat, e, if_neg c2, if_pos (by omega), w]
        · cases l with
          | nil =>
            intro h
            exact c2 (by simpa using h)
          | cons y t => exact hc.resolve_left (by simp)
    · refine Ev.succ (fun k => ?_) (prints_j3 hd hc hl)
      rw [attestorlaw02_RatioPrints.l0, if_pos (by omega), if_neg (by omega)]
theorem RatioPrints : attestorlaw02_RatioPrints.Pure := by
  intro l0 l1 l2 _ h0 w0 _ h1 w1 _ h2 w2
  obtain ⟨x, hx, ex⟩ := s_nat w0 h0 64
  obtain ⟨p, q, F, hp, hq, e1⟩ := n_fraction w0 h0 w1 h1 (show 64 ≤ 64 by decide) (by decide)
  have u1 : 0 ≤ p ∧ p < Bp 64 := ⟨F.p0, hp⟩
  have u2 : 0 ≤ q ∧ q < Bp 64 := ⟨Int.le_of_lt F.q0, hq⟩
  have hb : ∀ i, 0 ≤ co l2 i ∧ co l2 i < 256 := by
    intro i
    by_cases hi : i < l2.length
    · have := w2 _ (co_mem hi)
      simp [Lit.wf, IntKind.min, IntKind.max, IntKind.bits, IntKind.signed] at this
      omega
    · rw [co_over (by omega)]; omega
  refine Ev.ex ?_
  refine ex.bind ?_
  refine (s_Text hx).bind ?_
  refine (s_ParseText hx).bind ?_
  refine Ev.congr (fun k => if_pos rfl) ?_
  refine (n_same x hx).bind ?_
  refine Ev.congr (fun k => if_pos rfl) ?_
  refine Ev.succ (fun k => by show attestorlaw02_RatioPrints.j0 (k + 1) l0 l1 l2 = _; rw [attestorlaw02_RatioPrints.j0]) ?_
  refine e1.bind ?_
  refine (s_Show F hp hq).bind ?_
  refine (s_Read F hp hq).bind ?_
  refine Ev.congr (fun k => if_pos rfl) ?_
  refine Ev.congr (fun k => if_pos rfl) ?_
  refine (n_same p u1).bind ?_
  refine Ev.congr (fun k => if_pos rfl) ?_
  refine (n_same q u2).bind ?_
  refine Ev.congr (fun k => if_pos rfl) ?_
  refine Ev.succ (F := fun k => attestorlaw02_RatioPrints.l0 k l2 [] ((0 : Nat) : Int)) (fun k => ?_) (prints_l hb l2.length 0 [] (Nat.zero_add _) (Nat.le_refl 0) (by decide) (fun x hx => by cases hx) (Or.inl rfl))
  show attestorlaw02_RatioPrints.j1 (k + 1) l2 = _
  rw [attestorlaw02_RatioPrints.j1]
  rfl
end Go.Proofs.YtjjjoepnlhpjdaaDoor.Pure

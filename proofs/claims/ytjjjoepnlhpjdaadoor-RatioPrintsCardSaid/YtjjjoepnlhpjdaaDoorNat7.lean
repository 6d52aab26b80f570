/- What the exported functions on naturals answer, told by numbers. -/
import Derived.Test.YtjjjoepnlhpjdaaDoorNat6
import Derived.Test.YtjjjoepnlhpjdaaDoorQ1
import Derived.Test.YtjjjoepnlhpjdaaDoorQ3
import Derived.Test.YtjjjoepnlhpjdaaDoorQ5
import Derived.Test.YtjjjoepnlhpjdaaDoorQ6
import Derived.Test.YtjjjoepnlhpjdaaDoorQ7
import Derived.Test.YtjjjoepnlhpjdaaDoorQ9
namespace Go.Proofs.YtjjjoepnlhpjdaaDoor.Pure
open Go.RowKit Go.Proofs.YtjjjoepnlhpjdaaDoor.Q Go.Proofs.YtjjjoepnlhpjdaaDoor.Num Go.Proofs.YtjjjoepnlhpjdaaDoor.Pol Go.Proofs.YtjjjoepnlhpjdaaDoorW.PrintWords Go.Proofs.YtjjjoepnlhpjdaaDoorW.PrintLast Go.Proofs.YtjjjoepnlhpjdaaDoorW.PrintMore

theorem same_l {a : List Int} (hn : a.length < 4611686018427387904) : ∀ (d i : Nat), i + d = a.length → Ev (fun k => attestorlaw02_same.l0 k a a (i : Int)) true := by
  intro d
  induction d with
  | zero =>
    intro i hi
    refine Ev.succ (F := fun _ => some true) (fun k => ?_) (Ev.all fun _ => rfl)
    rw [attestorlaw02_same.l0, if_neg (by omega)]
  | succ d ih =>
    intro i hi
    refine Ev.succ (fun k => ?_) (ih (i + 1) (by omega))
    rw [attestorlaw02_same.l0, if_pos (by omega), if_pos (by omega), if_pos (by omega), if_pos rfl, w64_succ (by omega)]
theorem s_same {a : List Int} (hn : a.length < 4611686018427387904) : Ev (fun k => attestorlaw02_same.f k a a) true := by
  refine Ev.congr (fun k => ?_) (same_l hn a.length 0 (Nat.zero_add _))
  rw [attestorlaw02_same.f, if_pos rfl]
  rfl
theorem nat_l {l : List Int} (hl : Lb l) (hn : l.length < 35184372088832) : ∀ m : Nat, m ≤ l.length → Ev (fun k => attestorlaw02_nat.l0 k l (m : Int)) (dg (vl (l.take m))) := by
  intro m
  induction m with
  | zero =>
    intro _
    refine Ev.succ (F := fun _ => some []) (fun k => ?_) (Ev.all fun _ => rfl)
    rw [attestorlaw02_nat.l0, if_neg (by omega), if_pos (by omega), if_pos (by omega)]
    simp
  | succ m ih =>
    intro hm
    have e1 : wrap64 (((m + 1 : Nat) : Int) - 1) = (m : Int) := by rw [w64 (by omega) (by omega)]; omega
    have hs := vl_take_succ (l := l) (i := m) (by omega)
    by_cases c : co l m = 0
    · rw [hs, c, Int.zero_mul, Int.add_zero]
      refine Ev.succ (fun k => ?_) (ih (by omega))
      rw [attestorlaw02_nat.l0, e1, if_pos (by omega), if_pos (by omega), if_pos (by omega), rd_nat, if_pos c]
    · have hN : Nf (l.take (m + 1)) := ⟨hl.take _, Or.inr (by
        rw [List.length_take, Nat.min_eq_left hm]
        show co (l.take (m + 1)) m ≠ 0
        rw [co_take, if_pos (by omega)]
        exact c)⟩
      refine Ev.succ (F := fun _ => some (l.take (m + 1))) (fun k => ?_) (Ev.all fun _ => by rw [← hN.eq_dg])
      have e2 : (l.take (m + 1)).length = m + 1 := by rw [List.length_take]; omega
      rw [attestorlaw02_nat.l0, e1, if_pos (by omega), if_pos (by omega), if_pos (by omega), rd_nat, if_neg c, if_pos (by omega), if_pos (by omega), Int.toNat_natCast, List.nil_append, if_pos (by rw [e2]; show 0 + (m + 1) < _; omega)]
/-- A natural number out of words. -/
theorem s_nat {l : List Int} (hl : ∀ x ∈ l, (Lit.int .u32 x).wf = true) (hn : l.length * 4 ≤ 140737488351232) (n : Nat) : ∃ x : Int, (0 ≤ x ∧ x < Bp n) ∧ Ev (fun k => attestorlaw02_nat.f k l (n : Int)) (dg x) := by
  have hb := Lb.of_wf hl
  have e : mn (l.length : Int) (n : Int) = ((min l.length n : Nat) : Int) := by unfold mn; split <;> omega
  have r := vl_range (hb.take (min l.length n))
  rw [List.length_take] at r
  have h1 := Bp_le (show min (min l.length n) l.length ≤ n by omega)
  refine ⟨_, ⟨r.1, by omega⟩, Ev.congr (fun k => ?_) (nat_l hb (by omega) (min l.length n) (by omega))⟩
  rw [attestorlaw02_nat.f, e]
theorem dl {x : Int} (hx : 0 ≤ x ∧ x < Bp 64) : (dg x).length ≤ 64 := (dg_len hx.1).2 hx.2
theorem n_Valid {x : Int} (hx : 0 ≤ x ∧ x < Bp 64) : Ev (fun k => ratio_ValidNat.f k (dg x)) true := s_ValidT (Vn.dg hx.1 hx.2)
theorem n_bounded {x : Int} (hx : 0 ≤ x ∧ x < Bp 64) : ratio_bounded.f (dg x) = some (dg x, 0) := by
  rw [ratio_bounded.f, if_neg (by have := dl hx; omega)]
theorem n_same (x : Int) (hx : 0 ≤ x ∧ x < Bp 64) : Ev (fun k => attestorlaw02_same.f k (dg x) (dg x)) true := s_same (by have := dl hx; omega)
theorem dg_pos {x : Int} (h : 0 < x) : 0 < (dg x).length := (dg_nf x).len_pos.2 (by rw [vl_dg (by omega)]; exact h)
theorem up_Bp {x : Int} {m p : Nat} (hx : 0 ≤ x ∧ x < Bp m) (h : m ≤ p) : 0 ≤ x ∧ x < Bp p := by
  have h1 := Bp_le h
  omega
end Go.Proofs.YtjjjoepnlhpjdaaDoor.Pure

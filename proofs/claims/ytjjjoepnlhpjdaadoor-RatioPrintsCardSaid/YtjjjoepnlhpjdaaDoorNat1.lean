/- What the functions of ratio answer: trim, Nat, compare, ValidNat, add, sub. -/
import Derived.Test.YtjjjoepnlhpjdaaDoorVal
import Derived.Test.YtjjjoepnlhpjdaaDoorQ1
import Derived.Test.YtjjjoepnlhpjdaaDoorQ9
import Derived.Laws.BitsAllLaws
namespace Go.Proofs.YtjjjoepnlhpjdaaDoor.Pure
open Go.RowKit Go.Proofs.YtjjjoepnlhpjdaaDoor.Q Go.Proofs.YtjjjoepnlhpjdaaDoor.Num Go.Proofs.YtjjjoepnlhpjdaaDoor.Pol Go.Proofs.YtjjjoepnlhpjdaaDoorW.PrintWords Go.Proofs.YtjjjoepnlhpjdaaDoorW.PrintLast Go.Proofs.YtjjjoepnlhpjdaaDoorW.PrintMore

theorem trim_l {l : List Int} (hl : Lb l) (hn : l.length < 4611686018427387904) : ∀ m : Nat, m ≤ l.length → vl (l.take m) = vl l → Ev (fun k => ratio_trim.l0 k l (m : Int)) (dg (vl l)) := by
  intro m
  induction m with
  | zero =>
    intro _ hv
    refine Ev.succ (F := fun _ => some []) (fun k => ?_) (Ev.all fun _ => ?_)
    · rw [ratio_trim.l0, if_neg (by omega), if_pos (by omega), if_pos (by omega)]
      simp
    · rw [← hv]
      rfl
  | succ m ih =>
    intro hm hv
    have e1 : wrap64 (((m + 1 : Nat) : Int) - 1) = (m : Int) := by rw [w64 (by omega) (by omega)]; omega
    have hs := vl_take_succ (l := l) (i := m) (by omega)
    by_cases c : co l m = 0
    · refine Ev.succ (fun k => ?_) (ih (by omega) (by rw [← hv, hs, c]; omega))
      rw [ratio_trim.l0, e1, if_pos (by omega), if_pos (by omega), if_pos (by omega), rd_nat, if_pos c]
    · have hN : Nf (l.take (m + 1)) := ⟨hl.take _, Or.inr (by
        rw [List.length_take, Nat.min_eq_left hm]
        show co (l.take (m + 1)) m ≠ 0
        rw [co_take, if_pos (by omega)]
        exact c)⟩
      refine Ev.succ (F := fun _ => some (l.take (m + 1))) (fun k => ?_) (Ev.all fun _ => by rw [hN.of_val hv])
      rw [ratio_trim.l0, e1, if_pos (by omega), if_pos (by omega), if_pos (by omega), rd_nat, if_neg c, if_pos (by omega), if_pos (by omega), Int.toNat_natCast]
theorem s_trim {l : List Int} (hl : Lb l) (hn : l.length < 4611686018427387904) : Ev (fun k => ratio_trim.f k l) (dg (vl l)) := trim_l hl hn l.length (Nat.le_refl _) (by rw [List.take_length])
theorem s_Nat {n : Int} (h : U n) : Ev (fun k => ratio_Nat.f k n) (dg n) := by
  unfold U at h
  have hl : Lb [n % 4294967296, n / 4294967296 % 4294967296] := Lb.cons (by omega) (Lb.cons (by omega) Lb.nil)
  have e : vl [n % 4294967296, n / 4294967296 % 4294967296] = n := by rw [vl_cons, vl_cons, vl_nil]; omega
  have s := s_trim hl (by simp)
  rw [e] at s
  exact s.bind (G := fun _ t => some t) (Ev.all fun _ => rfl)
theorem cmpZ_lt {x y : Int} (h : x < y) : cmpZ x y = -1 := by unfold cmpZ; rw [if_pos h]
theorem cmpZ_gt {x y : Int} (h : y < x) : cmpZ x y = 1 := by unfold cmpZ; rw [if_neg (by omega), if_pos h]
theorem cmpZ_eq {x y : Int} (h : x = y) : cmpZ x y = 0 := by unfold cmpZ; rw [if_neg (by omega), if_neg (by omega)]
theorem top_lt {a b : List Int} {m : Nat} (ha : Lb a) (hb : Lb b) (hma : m ≤ a.length) (hmb : m ≤ b.length) (h : vl (a.drop m) < vl (b.drop m)) : vl a < vl b := by
  rw [vl_split a m hma, vl_split b m hmb]
  have h1 := (vl_range (ha.take m)).2
  have h2 := (vl_range (hb.take m)).1
  rw [List.length_take, Nat.min_eq_left hma] at h1
  have h3 := Int.mul_le_mul_of_nonneg_left (show vl (a.drop m) + 1 ≤ vl (b.drop m) by omega) (Int.le_of_lt (Bp_pos m))
  rw [Int.mul_add] at h3
  omega
theorem cmp_l {a b : List Int} {n : Nat} (ha : Lb a) (hb : Lb b) (la : a.length = n) (lb : b.length = n) (hn : n < 4611686018427387904) : ∀ m : Nat, m ≤ n → vl (a.drop m) = vl (b.drop m) → Ev (fun k => ratio_compare.l0 k a b (n : Int) ((n - m : Nat) : Int)) (cmpZ (vl a) (vl b)) := by
  intro m
  induction m with
  | zero =>
    intro _ hv
    rw [List.drop_zero, List.drop_zero] at hv
    refine Ev.succ (F := fun _ => some 0) (fun k => ?_) (Ev.all fun _ => by rw [cmpZ_eq hv])
    rw [ratio_compare.l0, if_neg (by omega)]
  | succ m ih =>
    intro hm hv
    have e1 : wrap64 (wrap64 ((a.length : Int) - 1) - ((n - (m + 1) : Nat) : Int)) = (m : Int) := by rw [w64 (n := (a.length : Int) - 1) (by omega) (by omega), w64 (by omega) (by omega)]; omega
    have e2 : wrap64 (((n - (m + 1) : Nat) : Int) + 1) = ((n - m : Nat) : Int) := by rw [w64 (by omega) (by omega)]; omega
    have da := drop_succ_co (l := a) (i := m) (by omega)
    have db := drop_succ_co (l := b) (i := m) (by omega)
    by_cases c1 : co a m < co b m
    · have := top_lt (m := m) ha hb (by omega) (by omega) (by omega)
      refine Ev.succ (F := fun _ => some (-1)) (fun k => ?_) (Ev.all fun _ => by rw [cmpZ_lt this])
      rw [ratio_compare.l0, e1, if_pos (by omega), if_pos (by omega), if_pos (by omega), if_pos (by omega), rd_nat, rd_nat, if_pos c1]
    by_cases c2 : co b m < co a m
    · have := top_lt (m := m) hb ha (by omega) (by omega) (by omega)
      refine Ev.succ (F := fun _ => some 1) (fun k => ?_) (Ev.all fun _ => by rw [cmpZ_gt this])
      rw [ratio_compare.l0, e1, if_pos (by omega), if_pos (by omega), if_pos (by omega), if_pos (by omega), rd_nat, rd_nat, if_neg c1, if_pos c2]
    refine Ev.succ (fun k => ?_) (ih (by omega) (by omega))
    rw [ratio_compare.l0, e1, e2, if_pos (by omega), if_pos (by omega), if_pos (by omega), if_pos (by omega), rd_nat, rd_nat, if_neg c1, if_neg (by omega)]
theorem s_compare {a b : List Int} (ha : Nf a) (hb : Nf b) (la : a.length < 4611686018427387904) (lb : b.length < 4611686018427387904) : Ev (fun k => ratio_compare.f k a b) (cmpZ (vl a) (vl b)) := by
  by_cases c1 : a.length < b.length
  · refine Ev.all fun k => ?_
    rw [ratio_compare.f, if_pos (by omega), cmpZ_lt (ha.len_lt hb c1)]
  by_cases c2 : b.length < a.length
  · refine Ev.all fun k => ?_
    rw [ratio_compare.f, if_neg (by omega), if_pos (by omega), cmpZ_gt (hb.len_lt ha c2)]
  have s := cmp_l ha.1 hb.1 rfl (show b.length = a.length by omega) la a.length (Nat.le_refl _) (by rw [List.drop_length, List.drop_of_length_le (by omega)])
  rw [Nat.sub_self] at s
  refine Ev.congr (fun k => ?_) s
  rw [ratio_compare.f, if_neg (by omega), if_neg (by omega)]
  rfl
theorem Nf.dec {l : List Int} (hl : Lb l) : (l.length = (dg (vl l)).length) ↔ Nf l := by
  constructor
  · intro h
    refine ⟨hl, ?_⟩
    by_cases c : l = []
    · exact Or.inl c
    · refine Or.inr fun e => ?_
      have hp : 0 < l.length := by cases l with | nil => exact absurd rfl c | cons x l => simp
      have h1 := vl_take_succ (l := l) (i := l.length - 1) (by omega)
      rw [show l.length - 1 + 1 = l.length by omega, List.take_length, e] at h1
      have h2 := (vl_range (hl.take (l.length - 1))).2
      rw [List.length_take, Nat.min_eq_left (by omega)] at h2
      have h3 := (dg_len (vl_range hl).1 (n := l.length - 1)).2 (by omega)
      omega
  · intro h
    rw [← h.eq_dg]
/-- Valid numbers. -/
def Vn (l : List Int) : Prop := l.length ≤ 64 ∧ Nf l
theorem s_Valid {l : List Int} (hl : Lb l) (hn : l.length < 4611686018427387904) (b : Bool) (hb : b = true ↔ Vn l) : Ev (fun k => ratio_ValidNat.f k l) b := by
  by_cases c : l.length ≤ 64
  · have s := (s_trim hl hn).bind (G := fun _ t => some ((t.length : Int) == (l.length : Int))) (Ev.all fun _ => rfl)
    have e : (((dg (vl l)).length : Int) == (l.length : Int)) = b := by
      rw [Bool.eq_iff_iff, hb]
      simp only [beq_iff_eq]
      unfold Vn
      rw [← Nf.dec hl]
      omega
    rw [e] at s
    refine Ev.congr (fun k => ?_) s
    rw [ratio_ValidNat.f, if_pos (by omega)]
  · refine Ev.all fun k => ?_
    rw [ratio_ValidNat.f, if_neg (by omega)]
    congr
    rw [Bool.eq_iff_iff, hb]
    unfold Vn
    simp
    omega
theorem s_ValidT {l : List Int} (h : Vn l) : Ev (fun k => ratio_ValidNat.f k l) true := s_Valid h.2.1 (by have := h.1; omega) true (by simp [h])
theorem Vn.dg {v : Int} (h0 : 0 ≤ v) (h : v < Bp 64) : Vn (dg v) := ⟨(dg_len h0).2 h, dg_nf v⟩
theorem add32 {a b c : Int} (ha : 0 ≤ a ∧ a < 4294967296) (hb : 0 ≤ b ∧ b < 4294967296) (hc : 0 ≤ c ∧ c ≤ 1) : bits_Add32.f a b c = some ((a + b + c) % 4294967296, (a + b + c) / 4294967296) := by
  unfold bits_Add32.f
  rw [wu64 (n := a) (by omega) (by omega), wu64 (n := b) (by omega) (by omega), wu64 (n := c) (by omega) (by omega), wu64 (n := a + b) (by omega) (by omega), wu64 (by omega) (by omega)]
  congr 2
  omega
theorem add_alg {O X Y P r q ca cb c : Int} (hv : O + c * P = X + Y) (hd : r + 4294967296 * q = ca + cb + c) : O + r * P + q * (4294967296 * P) = X + ca * P + (Y + cb * P) := by
  have h := congrArg (fun t => t * P) hd
  simp only [Int.add_mul] at h
  rw [show q * (4294967296 * P) = 4294967296 * q * P by rw [← Int.mul_assoc, Int.mul_comm q]]
  omega
theorem add_l {a b : List Int} (ha : Lb a) (hb : Lb b) (hl : b.length ≤ a.length) (hn : a.length < 70368744177664) : ∀ (d i : Nat) (out : List Int) (c : Int), i + d = a.length → out.length = a.length + 1 → Lb out → 0 ≤ c ∧ c ≤ 1 → vl (out.take i) + c * Bp i = vl (a.take i) + vl (b.take i) →
    Ev (fun k => ratio_add.l0 k a b out c (a.length : Int) (i : Int)) (dg (vl a + vl b)) := by
  intro d
  induction d with
  | zero =>
    intro i out c hi ho hout hc
    have q1 : 0 ≤ c ∧ c < 4294967296 := by omega
    have q2 : (out.set a.length c).length < 4611686018427387904 := by rw [List.length_set]; omega
    have q3 : (out.set a.length c).length ≤ a.length + 1 := by rw [List.length_set]; omega
    have q4 : a.length < out.length := by omega
    have q5 : ¬ ((i : Int) < (a.length : Int)) := by omega
    have q6 : a.length = i := by omega
    have q7 : b.length ≤ i := by omega
    intro hv
    have s := s_trim (l := out.set a.length c) (hout.set q1 _) q2
    have e : vl (out.set a.length c) = vl a + vl b := by
      have h1 := take_set_succ (l := out) (i := a.length) q4 c
      rw [vl_take_all q3] at h1
      rw [h1, q6, hv, vl_take_all (Nat.le_of_eq q6), vl_take_all q7]
    rw [e] at s
    refine Ev.succ (fun k => ?_) (s.bind (G := fun _ t => some t) (Ev.all fun _ => rfl))
    rw [ratio_add.l0, if_neg q5, if_pos (Int.natCast_nonneg _), if_pos (Int.ofNat_lt.2 q4), Int.toNat_natCast]
  | succ d ih =>
    intro i out c hi ho hout hc
    have g1 : (i : Int) < (a.length : Int) := by omega
    have g2 : (0 : Int) ≤ (i : Int) := Int.natCast_nonneg _
    have g3 : (i : Int) < (out.length : Int) := by omega
    have g4 : i < a.length := by omega
    have g5 : i < out.length := by omega
    have g6 : i + 1 + d = a.length := by omega
    have ew := w64_succ (i := i) (by omega)
    have h1 := ha i
    have h2 := hb i
    have hd := Int.emod_add_mul_ediv (co a i + co b i + c) 4294967296
    have hr : 0 ≤ (co a i + co b i + c) % 4294967296 ∧ (co a i + co b i + c) % 4294967296 < 4294967296 := by
      clear ew hd
      generalize co a i = x at *
      generalize co b i = y at *
      omega
    have hq : 0 ≤ (co a i + co b i + c) / 4294967296 ∧ (co a i + co b i + c) / 4294967296 ≤ 1 := by
      clear ew hd hr
      generalize co a i = x at *
      generalize co b i = y at *
      omega
    intro hv
    have ta := vl_take_succ (l := a) (i := i) g4
    have tb : vl (b.take (i + 1)) = vl (b.take i) + co b i * Bp i := by
      by_cases c1 : i < b.length
      · exact vl_take_succ c1
      · have c2 := Nat.le_of_not_lt c1
        rw [vl_take_all c2, vl_take_all (Nat.le_trans c2 (Nat.le_succ i)), co_over c2, Int.zero_mul, Int.add_zero]
    have hs := take_set_succ (l := out) (i := i) g5 ((co a i + co b i + c) % 4294967296)
    have key := ih (i + 1) (out.set i ((co a i + co b i + c) % 4294967296)) ((co a i + co b i + c) / 4294967296) g6 (by rw [List.length_set]; exact ho) (hout.set hr _) hq (by
      rw [hs, ta, tb, Bp_succ]
      exact add_alg hv hd)
    clear hd hr hq hs ta tb
    refine Ev.succ (fun k => ?_) key
    by_cases c1 : i < b.length
    · rw [ratio_add.l0, if_pos g1, if_pos (Int.ofNat_lt.2 c1), if_pos g2, if_pos g1, rd_nat, rd_nat, add32 h1 h2 hc, Option.bind_some, if_pos g3, ew, Int.toNat_natCast]
    · have e0 : co b i = 0 := co_over (Nat.le_of_not_lt c1)
      rw [e0]
      rw [ratio_add.l0, if_pos g1, if_neg (fun q => c1 (Int.ofNat_lt.1 q)), if_pos g2, if_pos g1, rd_nat, add32 h1 ⟨Int.le_refl _, by decide⟩ hc, Option.bind_some, if_pos g3, ew, Int.toNat_natCast]
theorem add_j {a b : List Int} (ha : Lb a) (hb : Lb b) (hl : b.length ≤ a.length) (hn : a.length < 70368744177664) : Ev (fun k => ratio_add.j0 k a b) (dg (vl a + vl b)) := by
  have e1 : wrap64 ((a.length : Int) + 1) = ((a.length + 1 : Nat) : Int) := by rw [w64 (by omega) (by omega)]; omega
  refine Ev.succ (fun k => ?_) (add_l ha hb hl hn a.length 0 (List.replicate (a.length + 1) 0) 0 (by omega) (by simp) (Lb.replicate _) (by omega) (by simp [vl]))
  rw [ratio_add.j0, e1, if_pos (by omega), if_pos (by omega), Int.toNat_natCast]
  rfl
theorem s_add {a b : List Int} (ha : Lb a) (hb : Lb b) (la : a.length < 70368744177664) (lb : b.length < 70368744177664) : Ev (fun k => ratio_add.f k a b) (dg (vl a + vl b)) := by
  by_cases c : a.length < b.length
  · rw [Int.add_comm]
    refine Ev.congr (fun k => ?_) (add_j hb ha (by omega) lb)
    rw [ratio_add.f, if_pos (by omega)]
  · refine Ev.congr (fun k => ?_) (add_j ha hb (by omega) la)
    rw [ratio_add.f, if_neg (by omega)]
theorem s_Clone {l : List Int} (hn : l.length < 35184372088832) : api_Nat_uint32.f l = some l := by
  unfold api_Nat_uint32.f
  rw [Option.bind_some, if_pos (by simpa using hn)]
  simp
end Go.Proofs.YtjjjoepnlhpjdaaDoor.Pure

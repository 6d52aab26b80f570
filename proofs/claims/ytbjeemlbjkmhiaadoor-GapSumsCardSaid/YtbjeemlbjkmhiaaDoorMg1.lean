/- Inverses, sums and dots of the program; for how many pairs two sums of fractions are equal. -/
import Derived.Test.YtbjeemlbjkmhiaaDoorMg0
import Derived.Test.YtbjeemlbjkmhiaaDoorQ14
import Derived.Test.YtbjeemlbjkmhiaaDoorQ15
import Derived.Test.YtbjeemlbjkmhiaaDoorQ4
namespace Go.Proofs.YtbjeemlbjkmhiaaDoor.Pure
open Go.RowKit Go.Proofs.YtbjeemlbjkmhiaaDoor.Q Go.Proofs.YtbjeemlbjkmhiaaDoor.Num Go.Proofs.YtbjeemlbjkmhiaaDoor.Pol Go.Proofs.YtbjeemlbjkmhiaaDoorW.PrintWords Go.Proofs.YtbjeemlbjkmhiaaDoorW.PrintLast Go.Proofs.YtbjeemlbjkmhiaaDoorW.PrintMore

def dot : List Int → List Int → Int
  | x :: c, y :: v => x * y + dot c v
  | _, _ => 0
theorem dot_nil (v : List Int) : dot [] v = 0 := by cases v <;> rfl
theorem prl_append (a b : List Int) : prl (a ++ b) = prl a * prl b := by
  induction a with
  | nil => rw [List.nil_append, prl, Int.one_mul]
  | cons x a ih => rw [List.cons_append, prl, prl, ih, Int.mul_assoc]
theorem prl_take {l : List Int} {i : Nat} (hi : i < l.length) : prl (l.take (i + 1)) = prl (l.take i) * co l i := by
  rw [List.take_add_one, List.getElem?_eq_getElem hi, Option.toList_some, prl_append, prl, prl, Int.mul_one, co_lt hi]
theorem prl_zero {p : Nat} (hp : Pr p) : ∀ l : List Int, Cg p (prl l) 0 → ∃ x ∈ l, Cg p x 0
  | [], hc => absurd hc (by
      intro hc
      have h1 := hp.two
      have := hc.uniq (a := 1) (b := 0) (by decide) (by omega) (by decide) (by omega)
      omega)
  | x :: l, hc => by
    rcases hp.int hc with h1 | h1
    · exact ⟨x, List.mem_cons_self, h1⟩
    · obtain ⟨y, hy, h2⟩ := prl_zero hp l h1
      exact ⟨y, List.mem_cons_of_mem _ hy, h2⟩
theorem prl_of_zero {p : Nat} : ∀ {l : List Int} {x : Int}, x ∈ l → Cg p x 0 → Cg p (prl l) 0
  | y :: l, x, hx, hz => by
    rcases List.mem_cons.1 hx with rfl | hx
    · exact (hz.mul (Cg.refl _ _)).trans (Cg.of_eq (Int.zero_mul _))
    · exact ((Cg.refl _ _).mul (prl_of_zero hx hz)).trans (Cg.of_eq (Int.mul_zero _))
section good
variable {f : Int} {p : Nat} (h : FP f p)
include h
theorem inv_rg (a : Int) : 0 ≤ inv p a ∧ inv p a < p := h.mod _
section
variable {l : List Int} (hl : l.length ≤ 1000000) (hu : UL l) (hz : ∀ i, i < l.length → ¬ Cg p (co l i) 0)
include hl hu hz
theorem ginv_l1 : ∀ (d j : Nat) (o : List Int) (x : Int), j + d = l.length → o.length = l.length → 0 ≤ x → Cg p (x * prl (l.take d)) 1 → (∀ t, t < d → 0 ≤ co o t ∧ Cg p (co o t) (prl (l.take t))) → (∀ t, d ≤ t → t < l.length → co o t = inv p (co l t)) →
    Ev (fun k => field_Inverses.l1 k f l (p : Int) o x (l.length : Int) j) (l.map (inv p))
  | 0, j, o, x, e, ho, hx, hc, h1, h2 => by
    obtain rfl : o = l.map (inv p) := ext_co (by rw [ho, List.length_map]) fun t ht => by
      rw [h2 t (by omega) (by omega), co_lt (l := l.map (inv p)) (by rw [List.length_map]; omega), List.getElem_map, co_lt (l := l) (by omega)]
    refine Ev.mks 0 fun k _ => ?_
    rw [field_Inverses.l1, if_neg (by omega)]
  | d + 1, j, o, x, e, ho, hx, hc, h1, h2 => by
    have hd : d < l.length := by omega
    have hr : wrap64 (wrap64 ((l.length : Int) - 1) - (j : Int)) = (d : Int) := by rw [w64 (n := (l.length : Int) - 1) (by omega) (by omega), w64 (by omega) (by omega)]; omega
    have hp := h.o.pos
    have hc0 := U.co hu d
    have ht : ¬ Int.tmod (co l d) (p : Int) = 0 := by rw [tmod_nn hc0.1]; exact fun e => hz d hd (mod_eq_zero.1 e)
    have ho1 := h1 d (by omega)
    rw [prl_take hd] at hc
    have key : (co o d * x) % p = inv p (co l d) := by
      have g1 : Cg p (co l d * ((co o d * x) % p)) 1 := (((Cg.refl _ _).mul ((Cg.mod _ _).trans (ho1.2.mul (Cg.refl _ _)))).trans (Cg.of_eq (by grind))).trans hc
      have g2 := inv_uniq g1 (inv_spec h.pr (hz d hd))
      have r1 := h.mod (co o d * x)
      have r2 := inv_rg h (co l d)
      exact g2.uniq r1.1 r1.2 r2.1 r2.2
    obtain ⟨K, hk⟩ := Ev.get (ginv_l1 d (j + 1) (o.set d (inv p (co l d))) ((x * co l d) % p) (by omega) (by rw [List.length_set]; exact ho) (h.mod _).1
      (((Cg.mod _ _).mul (Cg.refl _ _)).trans ((Cg.of_eq (by grind)).trans hc)) (fun t ht' => by rw [co_set_ne (by omega) _ (by omega)]; exact h1 t (by omega)) (fun t ht1 ht2 => by
        by_cases e : t = d
        · subst e; exact co_set_same (by omega) _
        · rw [co_set_ne (by omega) _ e]; exact h2 t (by omega) ht2))
    refine Ev.mks K fun k g => ?_
    rw [field_Inverses.l1, hr, if_pos (by omega), if_pos (by omega), if_pos (by omega), if_neg (by omega), rd_nat, if_neg ht, if_pos (by omega), rd_nat, s_Mul h ho1.1 hx, Option.bind_some, s_Mul h hx hc0.1, Option.bind_some, w64_succ (by omega), Int.toNat_natCast, key]
    exact hk k g
omit hl hu in
theorem prl_nz (i : Nat) : ¬ Cg p (prl (l.take i)) 0 := fun hc => by
  obtain ⟨x, hx, h0⟩ := prl_zero h.pr _ hc
  obtain ⟨j, hj, rfl⟩ := List.getElem_of_mem (List.mem_of_mem_take hx)
  exact hz j hj (by rw [co_lt hj]; exact h0)
theorem ginv_l0 : ∀ (d i : Nat) (o : List Int) (a : Int), i + d = l.length → o.length = l.length → 0 ≤ a → Cg p a (prl (l.take i)) → (∀ t, t < i → 0 ≤ co o t ∧ Cg p (co o t) (prl (l.take t))) →
    Ev (fun k => field_Inverses.l0 k f l (p : Int) o a (l.length : Int) i) (l.map (inv p))
  | 0, i, o, a, e, ho, ha, hc, h1 => by
    obtain rfl : i = l.length := by omega
    have hnz := prl_nz h hz l.length
    obtain ⟨K1, k1⟩ := Ev.get (s_Inv h ha)
    obtain ⟨K2, k2⟩ := Ev.get (ginv_l1 h hl hu hz l.length 0 o (inv p a) (by omega) ho (inv_rg h a).1
      (((Cg.refl _ _).mul hc.symm).trans ((Cg.of_eq (Int.mul_comm _ _)).trans (inv_spec h.pr (fun z => hnz (hc.symm.trans z))))) h1 (fun t ht1 ht2 => by omega))
    refine Ev.mks (K1 + K2) fun k g => ?_
    rw [field_Inverses.l0, if_neg (by omega), k1 k (by omega), Option.bind_some]
    exact k2 k (by omega)
  | d + 1, i, o, a, e, ho, ha, hc, h1 => by
    have hi : i < l.length := by omega
    have hp := h.o.pos
    have hc0 := U.co hu i
    have ht : ¬ Int.tmod (co l i) (p : Int) = 0 := by rw [tmod_nn hc0.1]; exact fun e => hz i hi (mod_eq_zero.1 e)
    obtain ⟨K, hk⟩ := Ev.get (ginv_l0 d (i + 1) (o.set i a) ((a * co l i) % p) (by omega) (by rw [List.length_set]; exact ho) (h.mod _).1 (by rw [prl_take hi]; exact (Cg.mod _ _).trans (hc.mul (Cg.refl _ _))) (fun t ht' => by
      by_cases e : t = i
      · subst e; rw [co_set_same (by omega)]; exact ⟨ha, hc⟩
      · rw [co_set_ne (by omega) _ e]; exact h1 t (by omega)))
    refine Ev.mks K fun k g => ?_
    rw [field_Inverses.l0, if_pos (by omega), if_pos (by omega), if_pos (by omega), Option.bind_some, if_pos (by omega), if_neg (by omega), rd_nat, if_neg ht, s_Mul h ha hc0.1, Option.bind_some, w64_succ (by omega), Int.toNat_natCast]
    exact hk k g
theorem s_Inverses : Ev (fun k => field_Inverses.f k f l) (l.map (inv p)) := by
  have hp := h.o.pos
  refine Ev.congr (fun k => ?_) (ginv_l0 h hl hu hz l.length 0 (List.replicate l.length 0) 1 (by omega) (List.length_replicate) (by decide) (by rw [List.take_zero, prl]; exact Cg.refl _ _) (fun t ht => by omega))
  rw [field_Inverses.f, s_P h, Option.bind_some, if_neg (by omega), if_pos (by omega), if_pos (by omega), Int.toNat_natCast]
  rfl
end
theorem gsum_l0 {l : List Int} (hl : l.length ≤ 1000000) (hu : UL l) : ∀ (d i : Nat) (a : Int), i + d = l.length → 0 ≤ a → a < p →
    Ev (fun k => field_Sum.l0 k f a l (l.length : Int) i) ((a + (l.drop i).sum) % p)
  | 0, i, a, e, h0, h1 => by
    refine Ev.mks 0 fun k _ => ?_
    rw [field_Sum.l0, if_neg (by omega), List.drop_eq_nil_of_le (by omega), List.sum_nil, Int.add_zero, Int.emod_eq_of_lt h0 h1]
  | d + 1, i, a, e, h0, h1 => by
    have hi : i < l.length := by omega
    have hx := U.co hu i
    have hm := h.mod (a + co l i)
    obtain ⟨K, hk⟩ := Ev.get (gsum_l0 hl hu d (i + 1) ((a + co l i) % p) (by omega) hm.1 hm.2)
    refine Ev.mks K fun k g => ?_
    rw [field_Sum.l0, if_pos (by omega), if_pos (by omega), if_pos (by omega), rd_nat, s_Add h h0 hx.1, Option.bind_some, w64_succ (by omega), hk k g, List.drop_eq_getElem_cons hi, List.sum_cons, ← co_lt hi]
    exact congrArg some (Cg.mod_eq (((Cg.mod _ _).add (Cg.refl _ _)).trans (Cg.of_eq (by omega))))
theorem s_Sum {l : List Int} (hl : l.length ≤ 1000000) (hu : UL l) : Ev (fun k => field_Sum.f k f l) (l.sum % p) := by
  have := gsum_l0 h hl hu l.length 0 0 (by omega) (by omega) h.o.pos
  rw [List.drop_zero, Int.zero_add] at this
  exact this
theorem gdot_l0 {c v : List Int} (hl : c.length = v.length) (hv : v.length ≤ 1000000) (hc : UL c) (hu : UL v) : ∀ (d i : Nat) (a : Int), i + d = c.length → 0 ≤ a → a < p →
    Ev (fun k => field_Dot.l0 k f c v a (c.length : Int) i) ((a + dot (c.drop i) (v.drop i)) % p)
  | 0, i, a, e, h0, h1 => by
    refine Ev.mks 0 fun k _ => ?_
    rw [field_Dot.l0, if_neg (by omega), show c.drop i = [] from List.drop_eq_nil_of_le (by omega), dot_nil, Int.add_zero, Int.emod_eq_of_lt h0 h1]
  | d + 1, i, a, e, h0, h1 => by
    have hi : i < c.length := by omega
    have hx := U.co hc i
    have hy := U.co hu i
    have hm1 := h.mod (co c i * co v i)
    have hm := h.mod (a + (co c i * co v i) % p)
    obtain ⟨K, hk⟩ := Ev.get (gdot_l0 hl hv hc hu d (i + 1) ((a + (co c i * co v i) % p) % p) (by omega) hm.1 hm.2)
    refine Ev.mks K fun k g => ?_
    rw [field_Dot.l0, if_pos (by omega), if_pos (by omega), if_pos (by omega), if_pos (by omega), rd_nat, rd_nat, s_Mul h hx.1 hy.1, Option.bind_some, s_Add h h0 hm1.1, Option.bind_some, w64_succ (by omega), hk k g, List.drop_eq_getElem_cons hi, List.drop_eq_getElem_cons (l := v) (i := i) (by omega), dot, ← co_lt hi, ← co_lt (l := v) (i := i) (by omega)]
    exact congrArg some (Cg.mod_eq (((Cg.mod _ _).add (Cg.refl _ _)).trans ((((Cg.refl _ _).add (Cg.mod _ _)).add (Cg.refl _ _)).trans (Cg.of_eq (by omega)))))
theorem s_Dot {c v : List Int} (hl : c.length = v.length) (hv : v.length ≤ 1000000) (hc : UL c) (hu : UL v) : Ev (fun k => field_Dot.f k f c v) (dot c v % p) := by
  have := gdot_l0 h hl hv hc hu c.length 0 0 (by omega) (by omega) h.o.pos
  rw [List.drop_zero, List.drop_zero, Int.zero_add] at this
  refine Ev.congr (fun k => ?_) this
  rw [field_Dot.f, hl, show mn (v.length : Int) (v.length : Int) = (v.length : Int) from by unfold mn; split <;> rfl, Int.natCast_zero]
end good

def nz (p : Nat) (L : List (List Int)) (c d : Int) : Bool := (vls p L c d).all fun x => x != 0
def fd (p : Nat) (A B : List (List Int)) (C : List Int) (c d : Int) : Bool := nz p A c d && nz p B c d && decide (((vls p A c d).map (inv p)).sum % p = dot C ((vls p B c d).map (inv p)) % p)
section good
variable {f : Int} {p : Nat} (h : FP f p)
include h
theorem vls_rg (L : List (List Int)) (c d : Int) : ∀ x ∈ vls p L c d, 0 ≤ x ∧ x < p := fun x hx => by
  obtain ⟨v, _, rfl⟩ := List.mem_map.1 hx
  exact h.mod _
theorem nz_iff (L : List (List Int)) (c d : Int) : PR L c d % p = 0 ↔ nz p L c d = false := by
  rw [mod_eq_zero]
  have hp := prl_vls (p := p) L c d
  have hpos := h.o.pos
  constructor
  · intro hz
    obtain ⟨x, hx, h0⟩ := prl_zero h.pr _ (hp.trans hz)
    have hr := vls_rg h L c d x hx
    obtain rfl := h0.uniq hr.1 hr.2 (by omega) (by omega)
    rw [nz, List.all_eq_false]
    exact ⟨0, hx, by simp⟩
  · intro hz
    rw [nz, List.all_eq_false] at hz
    obtain ⟨x, hx, h0⟩ := hz
    obtain rfl : x = 0 := by simpa using h0
    exact hp.symm.trans (prl_of_zero hx (Cg.refl _ _))
theorem nz_co {L : List (List Int)} {c d : Int} (hn : nz p L c d = true) : ∀ i, i < (vls p L c d).length → ¬ Cg p (co (vls p L c d) i) 0 := fun i hi hc => by
  have hm := co_mem hi
  have hr := vls_rg h L c d _ hm
  have hpos := h.o.pos
  have h0 := hc.uniq hr.1 hr.2 (by omega) (by omega)
  have := List.all_eq_true.1 hn _ hm
  rw [h0] at this
  simp at this
theorem inv_UL (l : List Int) : UL (l.map (inv p)) := fun x hx => by
  obtain ⟨y, _, rfl⟩ := List.mem_map.1 hx
  have := inv_rg h y
  have := h.o.lei
  unfold U; omega
theorem gfound_l0 {A B : List (List Int)} {C : List Int} (hA : Rws A) (hB : Rws B) (hC : UL C) (hl : B.length = C.length) (hp : p ≤ 257) : ∀ d i, i + d = p * p →
    Ev (fun k => gap_Found.l0 k f p A B C (List.range' i d) ((cnt i fun t => fd p A B C (t / p : Nat) (t % p : Nat) : Nat) : Int)) ((cnt (p * p) fun t => fd p A B C (t / p : Nat) (t % p : Nat) : Nat) : Int)
  | 0, i, e => by
    obtain rfl : i = p * p := by omega
    exact Ev.all fun k => rfl
  | d + 1, i, e => by
    have hpp : p * p ≤ 66049 := Nat.mul_le_mul hp hp
    have ih := gfound_l0 hA hB hC hl hp d (i + 1) (by omega)
    have c0 : (0 : Int) ≤ ((i / p : Nat) : Int) := Int.natCast_nonneg _
    have d0 : (0 : Int) ≤ ((i % p : Nat) : Int) := Int.natCast_nonneg _
    have a1 := s_values h hA c0 d0
    have a2 := s_pv h hA ((i / p : Nat) : Int) ((i % p : Nat) : Int)
    have b1 := s_values h hB c0 d0
    have b2 := s_pv h hB ((i / p : Nat) : Int) ((i % p : Nat) : Int)
    have n1 := nz_iff h A ((i / p : Nat) : Int) ((i % p : Nat) : Int)
    have n2 := nz_iff h B ((i / p : Nat) : Int) ((i % p : Nat) : Int)
    have vA := vls_ok h hA ((i / p : Nat) : Int) ((i % p : Nat) : Int)
    have vB := vls_ok h hB ((i / p : Nat) : Int) ((i % p : Nat) : Int)
    have hinc := cnt_inc (fun t => fd p A B C (t / p : Nat) (t % p : Nat)) (n := i) (by omega) (c := fd p A B C (i / p : Nat) (i % p : Nat) = true) Iff.rfl
    obtain ⟨K1, k1⟩ := Ev.get a1
    obtain ⟨K2, k2⟩ := Ev.get a2
    obtain ⟨K3, k3⟩ := Ev.get b1
    obtain ⟨K4, k4⟩ := Ev.get b2
    obtain ⟨K5, k5⟩ := Ev.get ih
    have nA := nz_co h (L := A) (c := ((i / p : Nat) : Int)) (d := ((i % p : Nat) : Int))
    have nB := nz_co h (L := B) (c := ((i / p : Nat) : Int)) (d := ((i % p : Nat) : Int))
    have lB : (vls p B ((i / p : Nat) : Int) ((i % p : Nat) : Int)).length = B.length := List.length_map ..
    by_cases c1 : nz p A ((i / p : Nat) : Int) ((i % p : Nat) : Int) = true
    · by_cases c2 : nz p B ((i / p : Nat) : Int) ((i % p : Nat) : Int) = true
      · obtain ⟨L1, m1⟩ := Ev.get (s_Inverses h vA.1 vA.2 (nA c1))
        obtain ⟨L2, m2⟩ := Ev.get (s_Inverses h vB.1 vB.2 (nB c2))
        obtain ⟨L3, m3⟩ := Ev.get (s_Sum h (l := (vls p A ((i / p : Nat) : Int) ((i % p : Nat) : Int)).map (inv p)) (by rw [List.length_map]; exact vA.1) (inv_UL h _))
        obtain ⟨L4, m4⟩ := Ev.get (s_Dot h (c := C) (v := (vls p B ((i / p : Nat) : Int) ((i % p : Nat) : Int)).map (inv p)) (by rw [List.length_map, lB, hl]) (by rw [List.length_map]; exact vB.1) hC (inv_UL h _))
        refine Ev.mk (K1 + K2 + K3 + K4 + K5 + L1 + L2 + L3 + L4) fun k hk => ?_
        rw [List.range'_succ, gap_Found.l0, k1 k (by omega), Option.bind_some, k3 k (by omega), Option.bind_some, k2 k (by omega), Option.bind_some, if_neg (fun z => by rw [n1.1 z] at c1; cases c1), k4 k (by omega), Option.bind_some, if_neg (fun z => by rw [n2.1 z] at c2; cases c2),
          m1 k (by omega), Option.bind_some, m3 k (by omega), Option.bind_some, m2 k (by omega), Option.bind_some, m4 k (by omega), Option.bind_some,
          cnt_inc (fun t => fd p A B C (t / p : Nat) (t % p : Nat)) (n := i) (by omega) (by
            rw [fd, c1, c2, Bool.and_true, Bool.true_and, decide_eq_true_iff])]
        exact k5 k (by omega)
      · refine Ev.mk (K1 + K2 + K3 + K4 + K5) fun k hk => ?_
        rw [if_neg (by rw [fd, Bool.eq_false_iff.2 c2, Bool.and_false, Bool.false_and]; decide)] at hinc
        rw [List.range'_succ, gap_Found.l0, k1 k (by omega), Option.bind_some, k3 k (by omega), Option.bind_some, k2 k (by omega), Option.bind_some, if_neg (fun z => by rw [n1.1 z] at c1; cases c1), k4 k (by omega), Option.bind_some, if_pos (n2.2 (Bool.eq_false_iff.2 c2)), hinc]
        exact k5 k (by omega)
    · refine Ev.mk (K1 + K2 + K3 + K4 + K5) fun k hk => ?_
      rw [if_neg (by rw [fd, Bool.eq_false_iff.2 c1, Bool.false_and, Bool.false_and]; decide)] at hinc
      rw [List.range'_succ, gap_Found.l0, k1 k (by omega), Option.bind_some, k3 k (by omega), Option.bind_some, k2 k (by omega), Option.bind_some, if_pos (n1.2 (Bool.eq_false_iff.2 c1)), hinc]
      exact k5 k (by omega)
theorem s_GFound {A B : List (List Int)} {C : List Int} (hA : Rws A) (hB : Rws B) (hC : UL C) (hp : p ≤ 257) (hl : B.length = C.length) (ht : gap_tuples.f f A B = some 0) : Ev (fun k => gap_Found.f k f A B C) (((cnt2 p p fun c d => fd p A B C c d : Nat) : Int), 0) := by
  obtain ⟨K, hk⟩ := Ev.get (gfound_l0 h hA hB hC hl hp (p * p) 0 (by omega))
  refine Ev.mk K fun k g => ?_
  rw [gap_Found.f, ht, Option.bind_some, if_neg (by rw [hl]; simp), if_neg (by decide), s_P h, Option.bind_some, Int.toNat_natCast, List.range_eq_range']
  have := hk k g
  rw [show ((cnt 0 fun t => fd p A B C (t / p : Nat) (t % p : Nat) : Nat) : Int) = 0 from rfl] at this
  have hpos := h.o.pos
  rw [this, Option.bind_some, cnt_pairs (m := p) (by omega) (fun c d => fd p A B C c d)]
end good
end Go.Proofs.YtbjeemlbjkmhiaaDoor.Pure
namespace Go.Proofs.YtbjeemlbjkmhiaaDoor.Pure
open Go.RowKit Go.Proofs.YtbjeemlbjkmhiaaDoor.Q Go.Proofs.YtbjeemlbjkmhiaaDoor.Num Go.Proofs.YtbjeemlbjkmhiaaDoor.Pol Go.Proofs.YtbjeemlbjkmhiaaDoorW.PrintWords Go.Proofs.YtbjeemlbjkmhiaaDoorW.PrintLast Go.Proofs.YtbjeemlbjkmhiaaDoorW.PrintMore

def csum (v : List Int) : List Int → List (List Int) → Int
  | c :: C, t :: T => (if v = t then c else 0) + csum v C T
  | _, _ => 0
def frt : List Int → List (List Int) → List (Int × List Int)
  | c :: C, t :: T => (-c, t) :: frt C T
  | _, _ => []
def frl (U T : List (List Int)) (C : List Int) : List (Int × List Int) := (U.map fun u => (1, u)) ++ frt C T
theorem csum_nil (v : List Int) (T : List (List Int)) : csum v [] T = 0 := by cases T <;> rfl
theorem frt_snd : ∀ {C : List Int} {T : List (List Int)}, C.length = T.length → (frt C T).map Prod.snd = T
  | [], [], _ => rfl
  | c :: C, t :: T, h => by
    simp only [frt, List.map_cons]
    rw [frt_snd (by simpa using h)]
theorem frl_snd {U T : List (List Int)} {C : List Int} (h : C.length = T.length) : (frl U T C).map Prod.snd = U ++ T := by
  rw [frl, List.map_append, frt_snd h, List.map_map]
  congr 1
  exact List.map_id U
theorem frl_length {U T : List (List Int)} {C : List Int} (h : C.length = T.length) : (frl U T C).length = U.length + T.length := by
  have := congrArg List.length (frl_snd (U := U) h)
  rwa [List.length_map, List.length_append] at this
theorem grp_one (z : List Int) : ∀ U : List (List Int), (((U.map fun u => ((1 : Int), u)).filter fun x => x.2 == z).map Prod.fst).sum = ((U.count z : Nat) : Int)
  | [] => rfl
  | u :: U => by
    have ih := grp_one z U
    rw [List.map_cons, List.filter_cons, List.count_cons]
    by_cases c : u = z
    · rw [if_pos (by simpa using c), if_pos (by simpa using c), List.map_cons, List.sum_cons, ih]
      simp only []
      omega
    · rw [if_neg (by simpa using c), if_neg (by simpa using c), ih, Nat.add_zero]
theorem grp_two (z : List Int) : ∀ (C : List Int) (T : List (List Int)), (((frt C T).filter fun x => x.2 == z).map Prod.fst).sum = - csum z C T
  | [], T => by rw [csum_nil]; cases T <;> rfl
  | c :: C, [] => rfl
  | c :: C, t :: T => by
    have ih := grp_two z C T
    rw [frt, List.filter_cons, csum]
    by_cases e : t = z
    · rw [if_pos (by simpa using e), if_pos e.symm, List.map_cons, List.sum_cons, ih]
      simp only []
      omega
    · rw [if_neg (by simpa using e), if_neg (fun g => e g.symm), ih]
      omega
theorem grp (z : List Int) (U T : List (List Int)) (C : List Int) : (((frl U T C).filter fun x => x.2 == z).map Prod.fst).sum = ((U.count z : Nat) : Int) - csum z C T := by
  rw [frl, List.filter_append, List.map_append, List.sum_append, grp_one, grp_two]
  omega
theorem sum_split {α : Type} (F : α → Int) (P : α → Bool) : ∀ l : List α, (l.map F).sum = ((l.filter P).map F).sum + ((l.filter fun x => !P x).map F).sum
  | [] => rfl
  | x :: l => by
    have ih := sum_split F P l
    cases e : P x
    · rw [List.filter_cons, if_neg (by rw [e]; decide), List.filter_cons, if_pos (by rw [e]; rfl), List.map_cons, List.map_cons, List.sum_cons, List.sum_cons, ih]; omega
    · rw [List.filter_cons, if_pos e, List.filter_cons, if_neg (by rw [e]; decide), List.map_cons, List.map_cons, List.sum_cons, List.sum_cons, ih]; omega
theorem sum_same (g : List Int → Int) (z : List Int) : ∀ l : List (Int × List Int), (∀ x ∈ l, x.2 = z) → (l.map fun x => x.1 * g x.2).sum = (l.map Prod.fst).sum * g z
  | [], _ => by simp
  | x :: l, h => by
    rw [List.map_cons, List.sum_cons, List.map_cons, List.sum_cons, sum_same g z l fun y hy => h y (List.mem_cons_of_mem _ hy), h x List.mem_cons_self]
    grind
theorem groups {p : Nat} (g : List Int → Int) : ∀ (n : Nat) (l : List (Int × List Int)), l.length ≤ n → (∀ z ∈ l, Cg p (((l.filter fun x => x.2 == z.2).map Prod.fst).sum) 0) → Cg p ((l.map fun x => x.1 * g x.2).sum) 0
  | 0, l, hl, _ => by rw [List.eq_nil_of_length_eq_zero (l := l) (by omega)]; exact Cg.refl _ _
  | n + 1, [], _, _ => Cg.refl _ _
  | n + 1, z :: l, hl, h => by
    rw [sum_split (fun x => x.1 * g x.2) (fun x => x.2 == z.2) (z :: l), sum_same g z.2 _ (fun x hx => eq_of_beq (List.mem_filter.1 hx).2)]
    have h1 := (h z List.mem_cons_self).mul (Cg.refl p (g z.2))
    have hlen : ((z :: l).filter fun x => !(x.2 == z.2)).length < (z :: l).length := List.length_filter_lt_length_iff_exists.2 ⟨z, List.mem_cons_self, by simp⟩
    have h2 := groups (p := p) g n ((z :: l).filter fun x => !(x.2 == z.2)) (by simp only [List.length_cons] at hlen hl ⊢; omega) (fun y hy => by
      obtain ⟨y1, y2⟩ := List.mem_filter.1 hy
      rw [List.filter_filter]
      have e : ((z :: l).filter fun x => (x.2 == y.2 && !(x.2 == z.2))) = (z :: l).filter fun x => x.2 == y.2 := by
        refine List.filter_congr fun x hx => ?_
        by_cases c : x.2 = y.2
        · rw [c, y2, Bool.and_true]
        · rw [show (x.2 == y.2) = false from by simpa using c, Bool.false_and]
      rw [e]
      exact h y y1)
    exact (h1.add h2).trans (Cg.of_eq (by rw [Int.zero_mul, Int.add_zero]))
theorem dot_frt (g : List Int → Int) : ∀ (C : List Int) (T : List (List Int)), ((frt C T).map fun x => x.1 * g x.2).sum = - dot C (T.map g)
  | [], T => by rw [dot_nil]; cases T <;> rfl
  | c :: C, [] => rfl
  | c :: C, t :: T => by
    rw [frt, List.map_cons, List.sum_cons, dot_frt g C T, List.map_cons, dot]
    simp only []
    grind
theorem sum_one (g : List Int → Int) : ∀ U : List (List Int), ((U.map fun u => ((1 : Int), u)).map fun x => x.1 * g x.2).sum = (U.map g).sum
  | [] => rfl
  | u :: U => by
    rw [List.map_cons, List.map_cons, List.sum_cons, sum_one g U, List.map_cons, List.sum_cons]
    simp only []
    omega
theorem sum_frl (g : List Int → Int) (U T : List (List Int)) (C : List Int) : ((frl U T C).map fun x => x.1 * g x.2).sum = (U.map g).sum - dot C (T.map g) := by
  rw [frl, List.map_append, List.sum_append, sum_one, dot_frt]
  omega
def Good (p : Nat) (U T : List (List Int)) (C : List Int) (v : List Int) : Prop := Cg p (csum v C T) ((U.count v : Nat) : Int)
section good
variable {f : Int} {p : Nat} (h : FP f p)
include h
omit h in
theorem fd_good {U T : List (List Int)} {C : List Int} (hl : C.length = T.length) (hg : ∀ v ∈ U ++ T, Good p U T C v) (c d : Int) : fd p U T C c d = (nz p U c d && nz p T c d) := by
  rw [fd]
  refine (congrArg _ (decide_eq_true ?_)).trans (Bool.and_true _)
  rw [vls, vls, List.map_map, List.map_map]
  have key := groups (p := p) (inv p ∘ fun v => (c + ev v d) % p) _ (frl U T C) (Nat.le_refl _) (fun z hz => by
    rw [grp]
    have hm : z.2 ∈ U ++ T := by rw [← frl_snd hl]; exact List.mem_map_of_mem hz
    exact (hg z.2 hm).symm.sub_zero)
  rw [sum_frl] at key
  exact Cg.mod_eq (Cg.of_sub key)
theorem vdef {L : List (List Int)} {c d : Int} (hn : nz p L c d = true) {v : List Int} (hv : v ∈ L) : Cg p (inv p ((c + ev v d) % p) * (c + ev v d)) 1 := by
  have hne : ¬ Cg p ((c + ev v d) % p) 0 := fun hc => by
    have hr := h.mod (c + ev v d)
    have hpos := h.o.pos
    have h0 := hc.uniq hr.1 hr.2 (by omega) (by omega)
    have := List.all_eq_true.1 hn _ (List.mem_map_of_mem (f := fun v => (c + ev v d) % p) hv)
    rw [h0] at this
    simp at this
  exact ((Cg.refl _ _).mul (Cg.mod _ _).symm).trans ((Cg.of_eq (Int.mul_comm _ _)).trans (inv_spec h.pr hne))
theorem fd_zero {U T : List (List Int)} {C : List Int} (hl : C.length = T.length) {c d : Int} (hf : fd p U T C c d = true) : zro p (NU (frl U T C) c d) = true := by
  rw [fd, Bool.and_eq_true, Bool.and_eq_true, decide_eq_true_iff] at hf
  obtain ⟨⟨n1, n2⟩, e⟩ := hf
  rw [vls, vls, List.map_map, List.map_map] at e
  rw [zro_iff]
  refine (NU_sum (p := p) (inv p ∘ fun v => (c + ev v d) % p) (l := frl U T C) (fun x hx => ?_)).trans ?_
  · have hm : x.2 ∈ U ++ T := by rw [← frl_snd hl]; exact List.mem_map_of_mem hx
    rcases List.mem_append.1 hm with hm | hm
    · exact vdef h n1 hm
    · exact vdef h n2 hm
  · rw [sum_frl]
    exact ((Cg.refl _ _).mul (Cg.of_mod e).sub_zero).trans (Cg.of_eq (Int.mul_zero _))
end good
end Go.Proofs.YtbjeemlbjkmhiaaDoor.Pure
namespace Go.Proofs.YtbjeemlbjkmhiaaDoor.Pure
open Go.RowKit Go.Proofs.YtbjeemlbjkmhiaaDoor.Q Go.Proofs.YtbjeemlbjkmhiaaDoor.Num Go.Proofs.YtbjeemlbjkmhiaaDoor.Pol Go.Proofs.YtbjeemlbjkmhiaaDoorW.PrintWords Go.Proofs.YtbjeemlbjkmhiaaDoorW.PrintLast Go.Proofs.YtbjeemlbjkmhiaaDoorW.PrintMore

theorem gs_fp0 : FP 0 97 := by
  obtain ⟨p, h⟩ := fp_of (f := 0) (by decide) (by decide)
  have e : (97 : Int) = p := h.eq.symm ▸ rfl
  obtain rfl : p = 97 := by omega
  exact h
def fbTab : Bool := (List.range 5).all fun m => (List.range 4).all fun r => (List.range 2).all fun w => gap_FoundBound.f 60 0 (m : Int) ((r + 1 : Nat) : Int) ((w + 1 : Nat) : Int) == some (dg ((m + r : Nat) : Int), dg (if m + r = 0 then 1 else 97), 0) && Int.gcd ((m + r : Nat) : Int) (if m + r = 0 then 1 else 97) == 1
theorem fbTab_ok : fbTab = true := by decide +kernel
theorem s_FdB {m r w : Nat} (hm : m ≤ 4) (hr : 1 ≤ r ∧ r ≤ 4) (hw : 1 ≤ w ∧ w ≤ 2) : ∃ a b : Int, Ev (fun k => gap_FoundBound.f k 0 m r w) (dg a, dg b, 0) ∧ Fr a b ∧ a < Bp 2 ∧ b < Bp 2 ∧ ∀ n : Nat, n ≤ (m + r - 1) * 97 → (n : Int) * b ≤ a * 9409 := by
  have h := List.all_eq_true.1 (List.all_eq_true.1 (List.all_eq_true.1 fbTab_ok m (List.mem_range.2 (by omega))) (r - 1) (List.mem_range.2 (by omega))) (w - 1) (List.mem_range.2 (by omega))
  rw [Nat.sub_add_cancel hr.1, Nat.sub_add_cancel hw.1, Bool.and_eq_true, beq_iff_eq, beq_iff_eq] at h
  refine ⟨_, _, Ev.of_mono (gap_FoundBound.mono _ _ _ _) h.1, ⟨Int.natCast_nonneg _, by split <;> decide, h.2⟩, by rw [Bp2]; omega, by rw [Bp2]; split <;> decide, fun n hn => ?_⟩
  split
  · rename_i e
    have : n = 0 := by omega
    subst this
    omega
  · omega
section
variable {m r w : Nat} (hm : m ≤ 4) (hr : 1 ≤ r ∧ r ≤ 4) (hw : 1 ≤ w ∧ w ≤ 2) {U T : List (List Int)} {C : List Int} (hU : OkL m w U) (hT : OkL r w T) (hC : C.length = r) (uC : UL C)

section
include hm hr hw hU hT
omit hm hU in
theorem gs_l7 {c d n n28 : Nat} (hn : n ≤ 100000) (hc : c < 97) (hd : d < 97) (hK : Ev (fun k => gSums_.l5 k m r U T (n28 : Int) ((n + (if (nz 97 U c d && nz 97 T c d) = true then 1 else 0) : Nat) : Int) c (IntKind.u64.wrap ((d : Int) + 1))) true) : ∀ (e i : Nat) (b : Bool), i + e = r → (b && nz 97 (T.drop i) c d) = (nz 97 U c d && nz 97 T c d) →
    Ev (fun k => gSums_.l7 k m r U T (n28 : Int) (n : Int) c d b i) true
  | 0, i, b, e, hb => by
    obtain ⟨K, hk⟩ := Ev.get hK
    have lT := hT.1
    rw [show T.drop i = [] from List.drop_eq_nil_of_le (by omega), show nz 97 [] c d = true from rfl, Bool.and_true] at hb
    refine Ev.mks K fun k g => ?_
    rw [gSums_.l7, if_neg (by omega)]
    have hk := hk k g
    rw [← hb] at hk
    cases b with
    | true => rw [if_pos rfl] at hk ⊢; rw [w64_succ (by omega)]; exact hk
    | false => rw [if_neg (by decide)] at hk ⊢; exact hk
  | e + 1, i, b, hi, hb => by
    obtain ⟨iT, e1, rT⟩ := hT.nth (i := i) (by omega)
    rw [List.drop_eq_getElem_cons iT, show nz 97 (T[i] :: T.drop (i + 1)) c d = ((c + ev T[i] d) % (97 : Nat) != 0 && nz 97 (T.drop (i + 1)) c d) from rfl, ← Bool.and_assoc] at hb
    obtain ⟨K1, k1⟩ := Ev.get (s_Eval gs_fp0.o (l := T[i]) (by rw [rT.1]; omega) (fun x hx => by have := rT.2 x hx; unfold Pure.U; omega) (x := (d : Int)) (Int.natCast_nonneg _))
    obtain ⟨K2, k2⟩ := Ev.get (gs_l7 hn hc hd hK e (i + 1) (b && (c + ev T[i] d) % (97 : Nat) != 0) (by omega) hb)
    have hv := gs_fp0.mod (ev T[i] d)
    refine Ev.mks (K1 + K2) fun k g => ?_
    have hk := k2 k (by omega)
    rw [gSums_.l7, if_pos (by omega), w64_succ (by omega)]
    cases b with
    | false => rw [if_neg (by decide)]; exact hk
    | true =>
      have ev1 : Int.tmod (IntKind.u64.wrap ((c : Int) + ev T[i] d % (97 : Nat))) 97 = (c + ev T[i] d) % (97 : Nat) := by
        rw [wu64 (by omega) (by omega), tmod_nn (by omega)]
        exact Cg.mod_eq ((Cg.refl _ _).add (Cg.mod _ _))
      rw [if_pos rfl, if_pos (by omega), if_pos (by omega), e1, k1 k (by omega), Option.bind_some, ev1]
      exact hk
theorem gs_l6 {c d n n28 : Nat} (hn : n ≤ 100000) (hc : c < 97) (hd : d < 97) (hK : Ev (fun k => gSums_.l5 k m r U T (n28 : Int) ((n + (if (nz 97 U c d && nz 97 T c d) = true then 1 else 0) : Nat) : Int) c (IntKind.u64.wrap ((d : Int) + 1))) true) : ∀ (e i : Nat) (b : Bool), i + e = m → (b && nz 97 (U.drop i) c d) = nz 97 U c d →
    Ev (fun k => gSums_.l6 k m r U T (n28 : Int) (n : Int) c d b i) true
  | 0, i, b, e, hb => by
    have lU := hU.1
    rw [show U.drop i = [] from List.drop_eq_nil_of_le (by omega), show nz 97 [] c d = true from rfl, Bool.and_true] at hb
    refine Ev.succ (fun k => ?_) (gs_l7 hr hw hT hn hc hd hK r 0 b (by omega) (by rw [List.drop_zero, hb]))
    rw [gSums_.l6, if_neg (by omega)]
    rfl
  | e + 1, i, b, hi, hb => by
    obtain ⟨iU, e1, rU⟩ := hU.nth (i := i) (by omega)
    rw [List.drop_eq_getElem_cons iU, show nz 97 (U[i] :: U.drop (i + 1)) c d = ((c + ev U[i] d) % (97 : Nat) != 0 && nz 97 (U.drop (i + 1)) c d) from rfl, ← Bool.and_assoc] at hb
    obtain ⟨K1, k1⟩ := Ev.get (s_Eval gs_fp0.o (l := U[i]) (by rw [rU.1]; omega) (fun x hx => by have := rU.2 x hx; unfold Pure.U; omega) (x := (d : Int)) (Int.natCast_nonneg _))
    obtain ⟨K2, k2⟩ := Ev.get (gs_l6 hn hc hd hK e (i + 1) (b && (c + ev U[i] d) % (97 : Nat) != 0) (by omega) hb)
    have hv := gs_fp0.mod (ev U[i] d)
    refine Ev.mks (K1 + K2) fun k g => ?_
    have hk := k2 k (by omega)
    rw [gSums_.l6, if_pos (by omega), w64_succ (by omega)]
    cases b with
    | false => rw [if_neg (by decide)]; exact hk
    | true =>
      have ev1 : Int.tmod (IntKind.u64.wrap ((c : Int) + ev U[i] d % (97 : Nat))) 97 = (c + ev U[i] d) % (97 : Nat) := by
        rw [wu64 (by omega) (by omega), tmod_nn (by omega)]
        exact Cg.mod_eq ((Cg.refl _ _).add (Cg.mod _ _))
      rw [if_pos rfl, if_pos (by omega), if_pos (by omega), e1, k1 k (by omega), Option.bind_some, ev1]
      exact hk
theorem gs_l5 {c n28 : Nat} (hc : c < 97) (hK : Ev (fun k => gSums_.l4 k m r U T (n28 : Int) ((cnt2 (c + 1) 97 (fun c d => nz 97 U c d && nz 97 T c d) : Nat) : Int) (IntKind.u64.wrap ((c : Int) + 1))) true) : ∀ (e d : Nat), d + e = 97 →
    Ev (fun k => gSums_.l5 k m r U T (n28 : Int) ((cnt2 c 97 (fun c d => nz 97 U c d && nz 97 T c d) + cnt d (fun d => nz 97 U c d && nz 97 T c d) : Nat) : Int) c d) true
  | 0, d, e => by
    obtain rfl : d = 97 := by omega
    refine Ev.succ (fun k => ?_) hK
    rw [gSums_.l5, if_neg (by omega), cnt2]
  | e + 1, d, hd => by
    have n1 : cnt2 c 97 (fun c d => nz 97 U c d && nz 97 T c d) ≤ 97 * 97 := by
      have g1 : ∀ n, cnt2 n 97 (fun c d => nz 97 U c d && nz 97 T c d) ≤ n * 97 := fun n => by
        induction n with
        | zero => exact Nat.zero_le _
        | succ n ih => have := cnt_le (fun d : Nat => nz 97 U (n : Int) d && nz 97 T (n : Int) d) 97; rw [cnt2, Nat.add_mul]; omega
      exact Nat.le_trans (g1 c) (Nat.mul_le_mul_right 97 (Nat.le_of_lt hc))
    have n2 := cnt_le (fun d : Nat => nz 97 U (c : Int) d && nz 97 T (c : Int) d) d
    have ih := gs_l5 hc hK e (d + 1) (by omega)
    rw [cnt_succ, ← Nat.add_assoc, show ((d + 1 : Nat) : Int) = IntKind.u64.wrap ((d : Int) + 1) from by rw [wu64 (by omega) (by omega)]; omega] at ih
    have h6 := gs_l6 hm hr hw hU hT (c := c) (d := d) (n := cnt2 c 97 (fun c d => nz 97 U c d && nz 97 T c d) + cnt d (fun d => nz 97 U c d && nz 97 T c d)) (by omega) hc (by omega) ih m 0 true (by omega) (by rw [List.drop_zero, Bool.true_and])
    have h13 := Ev.succ (G := fun k => gSums_.j13 k m r U T (n28 : Int) ((cnt2 c 97 (fun c d => nz 97 U c d && nz 97 T c d) + cnt d (fun d => nz 97 U c d && nz 97 T c d) : Nat) : Int) c d) (fun k => by rw [gSums_.j13]; rfl) h6
    refine Ev.succ (fun k => ?_) h13
    rw [gSums_.l5, if_pos (by omega)]
theorem gs_l4 {n28 : Nat} (h28 : n28 = cnt2 97 97 (fun c d => nz 97 U c d && nz 97 T c d)) : ∀ (e c : Nat), c + e = 97 →
    Ev (fun k => gSums_.l4 k m r U T (n28 : Int) ((cnt2 c 97 (fun c d => nz 97 U c d && nz 97 T c d) : Nat) : Int) c) true
  | 0, c, e => by
    obtain rfl : c = 97 := by omega
    obtain ⟨K, hk⟩ := Ev.get g_works
    refine Ev.mks K fun k g => ?_
    rw [gSums_.l4, if_neg (by omega), if_pos (by rw [h28]), hk k g, Option.bind_some]
  | e + 1, c, hc => by
    have ih := gs_l4 h28 e (c + 1) (by omega)
    rw [show ((c + 1 : Nat) : Int) = IntKind.u64.wrap ((c : Int) + 1) from by rw [wu64 (by omega) (by omega)]; omega] at ih
    have h5 := gs_l5 hm hr hw hU hT (c := c) (by omega) ih 97 0 (by omega)
    have h11 := Ev.succ (G := fun k => gSums_.j11 k m r U T (n28 : Int) ((cnt2 c 97 (fun c d => nz 97 U c d && nz 97 T c d) : Nat) : Int) c) (fun k => by rw [gSums_.j11]; rfl) h5
    refine Ev.succ (fun k => ?_) h11
    rw [gSums_.l4, if_pos (by omega)]
end

include hm hr hw hU hT hC uC
theorem gs_end {b : Bool} (hb : b = true ↔ ∀ v ∈ U ++ T, Good 97 U T C v) : Ev (fun k => (gap_Found.f k 0 U T C).bind fun bt994 => (if bt994.2 = 0 then (gSums_.j8 k m r w U T b bt994.1) else (none))) true := by
  have rU := hU.rws (by omega) (by omega)
  have rT := hT.rws (by omega) (by omega)
  have hl : C.length = T.length := by rw [hC, hT.1]
  have ht := tuples_ok (w := w) (by omega) (by omega) (f := 0) (by decide) (A := U) (B := T) (fun v hv => (hU.2 v hv).1) (fun v hv => (hT.2 v hv).1) (by rw [hU.1]; omega) (by rw [hT.1]; omega)
  have hE := s_GFound gs_fp0 rU rT uC (by decide) hl.symm ht
  refine hE.bind (G := fun k bt994 => (if bt994.2 = 0 then (gSums_.j8 k m r w U T b bt994.1) else (none))) ?_
  obtain ⟨K4, k4⟩ := Ev.get g_works
  cases b with
  | true =>
    have hg := hb.1 rfl
    have hc : cnt2 97 97 (fun c d => fd 97 U T C c d) = cnt2 97 97 (fun c d => nz 97 U c d && nz 97 T c d) := cnt2_congr fun x y _ _ => fd_good hl hg x y
    have h4 := gs_l4 hm hr hw hU hT hc 97 0 (by omega)
    have h9 := Ev.succ (G := fun k => gSums_.j9 k m r U T ((cnt2 97 97 (fun c d => fd 97 U T C c d) : Nat) : Int)) (fun k => by rw [gSums_.j9]; rfl) h4
    refine Ev.succ (fun k => ?_) h9
    show (if (0 : Int) = 0 then _ else none) = _
    rw [if_pos rfl, gSums_.j8, if_pos rfl]
  | false =>
    have hbad : ∃ v, v ∈ U ++ T ∧ ¬ Good 97 U T C v := Classical.byContradiction fun g => by
      have := hb.2 fun v hv => Classical.byContradiction fun g' => g ⟨v, hv, g'⟩
      cases this
    obtain ⟨v, hv, hng⟩ := hbad
    rw [← frl_snd hl] at hv
    obtain ⟨z, hz, rfl⟩ := List.mem_map.1 hv
    have hrow : ∀ x ∈ frl U T C, Rw w x.2 := fun x hx => by
      have hm' : x.2 ∈ U ++ T := by rw [← frl_snd hl]; exact List.mem_map_of_mem hx
      rcases List.mem_append.1 hm' with hm' | hm'
      · exact hU.2 _ hm'
      · exact hT.2 _ hm'
    have hlen : (frl U T C).length = m + r := by rw [frl_length hl, hU.1, hT.1]
    have hc := frac_count (p := 97) (s := 1) pr97 (by decide) (l := frl U T C) (fun x hx => (Deg.len _ x.2).mono (by rw [(hrow x hx).1]; omega)) (fun x hx y hy he => by
      have ra := hrow x hx
      have rb := hrow y hy
      refine ext_co (by rw [ra.1, rb.1]) fun i hi => ?_
      have xa := ra.2 _ (co_mem hi)
      have xb := rb.2 _ (co_mem (l := y.2) (i := i) (by rw [rb.1, ← ra.1]; exact hi))
      exact (he i).uniq xa.1 xa.2 xb.1 xb.2) (by rw [hlen]; omega) z hz (fun hc => hng (by rw [grp] at hc; exact (Cg.of_sub hc).symm))
    rw [hlen, Nat.mul_one] at hc
    have hle : cnt2 97 97 (fun c d => fd 97 U T C c d) ≤ (m + r - 1) * 97 := Nat.le_trans (cnt2_mono fun x y _ _ hf => fd_zero gs_fp0 hl hf) hc
    obtain ⟨a, b, g1, g2, g3, g4, g5⟩ := s_FdB hm hr hw
    have sP := s_part (n := cnt2 97 97 (fun c d => fd 97 U T C c d)) g2 g3 g4 (by omega) (g5 _ hle)
    obtain ⟨K1, k1⟩ := Ev.get g1
    obtain ⟨K2, k2⟩ := Ev.get sP
    refine Ev.mks (K1 + K2 + K4) fun k hk => ?_
    show (if (0 : Int) = 0 then _ else none) = _
    rw [if_pos rfl, gSums_.j8, if_neg (by decide), k1 k (by omega), Option.bind_some, k2 k (by omega), Option.bind_some, if_pos rfl, k4 k (by omega), Option.bind_some]

theorem gs_l2 {v : List Int} (hv : Rw w v) {b : Bool} {i : Nat} (hi : i < 100) (hK : Ev (fun k => gSums_.l1 k m r w U T C (b && decide (csum v C T % (97 : Nat) = ((U.count v : Nat) : Int) % (97 : Nat))) ((i + 1 : Nat) : Int)) true) : ∀ (e k : Nat) (s : Int), k + e = r → 0 ≤ s → s < 97 → Cg (97 : Nat) (s + csum v (C.drop k) (T.drop k)) (csum v C T) →
    Ev (fun n => gSums_.l2 n m r w U T C b i v s k) true
  | 0, k, s, e, s0, s1, hs => by
    obtain ⟨K1, k1⟩ := Ev.get hK
    obtain ⟨K2, k2⟩ := Ev.get (s_often hv hU (by omega) (by omega))
    have hcl := List.count_le_length (a := v) (l := U)
    have lU := hU.1
    rw [show C.drop k = [] from List.drop_eq_nil_of_le (by omega), csum_nil, Int.add_zero] at hs
    have es : s = csum v C T % (97 : Nat) := by have := Cg.mod_eq hs; omega
    refine Ev.mks (K1 + K2) fun n g => ?_
    have hk := k1 n (by omega)
    rw [gSums_.l2, if_neg (by omega), w64_succ (by omega)]
    cases b with
    | false => rw [if_neg (by decide)]; exact hk
    | true =>
      rw [if_pos rfl, k2 n (by omega), Option.bind_some, wu64 (by omega) (by omega), tmod_nn (by omega), es]
      exact hk
  | e + 1, k, s, hke, s0, s1, hs => by
    obtain ⟨iT, e1, rT⟩ := hT.nth (i := k) (by omega)
    have iC : k < C.length := by omega
    have hc0 := Pure.U.co uC k
    obtain ⟨K1, k1⟩ := Ev.get (s_equal (a := v) (b := T[k]) (by rw [hv.1, rT.1]) (by rw [hv.1]; omega))
    rw [List.drop_eq_getElem_cons iC, List.drop_eq_getElem_cons iT, csum, ← co_lt iC] at hs
    have hj : Ev (fun n => gSums_.j5 n m r w U T C b i v s k) true := by
      by_cases c : v = T[k]
      · have hm' := gs_fp0.mod (s + co C k)
        rw [if_pos c] at hs
        obtain ⟨K2, k2⟩ := Ev.get (gs_l2 hv hi hK e (k + 1) ((s + co C k) % (97 : Nat)) (by omega) hm'.1 hm'.2 (((Cg.mod _ _).add (Cg.refl _ _)).trans ((Cg.of_eq (by omega)).trans hs)))
        refine Ev.mks (K1 + K2) fun n g => ?_
        have hk := k2 n (by omega)
        rw [gSums_.j5, if_pos (by omega), if_pos (by omega), e1, k1 n (by omega), Option.bind_some, if_pos (decide_eq_true c), if_pos (by omega), rd_nat, s_Add gs_fp0 s0 hc0.1, Option.bind_some, w64_succ (by omega)]
        exact hk
      · rw [if_neg c, Int.zero_add] at hs
        obtain ⟨K2, k2⟩ := Ev.get (gs_l2 hv hi hK e (k + 1) s (by omega) s0 s1 hs)
        refine Ev.mks (K1 + K2) fun n g => ?_
        have hk := k2 n (by omega)
        rw [gSums_.j5, if_pos (by omega), if_pos (by omega), e1, k1 n (by omega), Option.bind_some, if_neg (by rw [decide_eq_true_iff]; exact c), w64_succ (by omega)]
        exact hk
    refine Ev.succ (fun n => ?_) hj
    rw [gSums_.l2, if_pos (by omega)]
theorem gs_l3 {v : List Int} (hv : Rw w v) {b : Bool} {i : Nat} (hi : i < 100) (hK : Ev (fun k => gSums_.l1 k m r w U T C (b && decide (csum v C T % (97 : Nat) = ((U.count v : Nat) : Int) % (97 : Nat))) ((i + 1 : Nat) : Int)) true) : ∀ (e k : Nat) (s : Int), k + e = r → 0 ≤ s → s < 97 → Cg (97 : Nat) (s + csum v (C.drop k) (T.drop k)) (csum v C T) →
    Ev (fun n => gSums_.l3 n m r w U T C b i v s k) true
  | 0, k, s, e, s0, s1, hs => by
    obtain ⟨K1, k1⟩ := Ev.get hK
    obtain ⟨K2, k2⟩ := Ev.get (s_often hv hU (by omega) (by omega))
    have hcl := List.count_le_length (a := v) (l := U)
    have lU := hU.1
    rw [show C.drop k = [] from List.drop_eq_nil_of_le (by omega), csum_nil, Int.add_zero] at hs
    have es : s = csum v C T % (97 : Nat) := by have := Cg.mod_eq hs; omega
    refine Ev.mks (K1 + K2) fun n g => ?_
    have hk := k1 n (by omega)
    rw [gSums_.l3, if_neg (by omega), w64_succ (by omega)]
    cases b with
    | false => rw [if_neg (by decide)]; exact hk
    | true =>
      rw [if_pos rfl, k2 n (by omega), Option.bind_some, wu64 (by omega) (by omega), tmod_nn (by omega), es]
      exact hk
  | e + 1, k, s, hke, s0, s1, hs => by
    obtain ⟨iT, e1, rT⟩ := hT.nth (i := k) (by omega)
    have iC : k < C.length := by omega
    have hc0 := Pure.U.co uC k
    obtain ⟨K1, k1⟩ := Ev.get (s_equal (a := v) (b := T[k]) (by rw [hv.1, rT.1]) (by rw [hv.1]; omega))
    rw [List.drop_eq_getElem_cons iC, List.drop_eq_getElem_cons iT, csum, ← co_lt iC] at hs
    have hj : Ev (fun n => gSums_.j7 n m r w U T C b i v s k) true := by
      by_cases c : v = T[k]
      · have hm' := gs_fp0.mod (s + co C k)
        rw [if_pos c] at hs
        obtain ⟨K2, k2⟩ := Ev.get (gs_l3 hv hi hK e (k + 1) ((s + co C k) % (97 : Nat)) (by omega) hm'.1 hm'.2 (((Cg.mod _ _).add (Cg.refl _ _)).trans ((Cg.of_eq (by omega)).trans hs)))
        refine Ev.mks (K1 + K2) fun n g => ?_
        have hk := k2 n (by omega)
        rw [gSums_.j7, if_pos (by omega), if_pos (by omega), e1, k1 n (by omega), Option.bind_some, if_pos (decide_eq_true c), if_pos (by omega), rd_nat, s_Add gs_fp0 s0 hc0.1, Option.bind_some, w64_succ (by omega)]
        exact hk
      · rw [if_neg c, Int.zero_add] at hs
        obtain ⟨K2, k2⟩ := Ev.get (gs_l3 hv hi hK e (k + 1) s (by omega) s0 s1 hs)
        refine Ev.mks (K1 + K2) fun n g => ?_
        have hk := k2 n (by omega)
        rw [gSums_.j7, if_pos (by omega), if_pos (by omega), e1, k1 n (by omega), Option.bind_some, if_neg (by rw [decide_eq_true_iff]; exact c), w64_succ (by omega)]
        exact hk
    refine Ev.succ (fun n => ?_) hj
    rw [gSums_.l3, if_pos (by omega)]
theorem gs_l1 : ∀ (d i : Nat) (b : Bool), i + d = m + r → (b = true ↔ ∀ j, (h : j < (U ++ T).length) → j < i → Good 97 U T C (U ++ T)[j]) → Ev (fun k => gSums_.l1 k m r w U T C b i) true
  | 0, i, b, e, hb => by
    have lU := hU.1
    have lT := hT.1
    have ew : wrap64 ((m : Int) + (r : Int)) = ((m + r : Nat) : Int) := by rw [w64 (by omega) (by omega)]; omega
    refine Ev.succ (fun k => ?_) (gs_end hm hr hw hU hT hC uC (b := b) (by
      rw [hb]
      constructor
      · intro h v hv
        obtain ⟨j, hj, rfl⟩ := List.getElem_of_mem hv
        exact h j hj (by rw [List.length_append] at hj; omega)
      · exact fun h j hj _ => h _ (List.getElem_mem hj)))
    rw [gSums_.l1, ew, if_neg (by omega)]
  | d + 1, i, b, e, hb => by
    have lU := hU.1
    have lT := hT.1
    have ew : wrap64 ((m : Int) + (r : Int)) = ((m + r : Nat) : Int) := by rw [w64 (by omega) (by omega)]; omega
    have iW : i < (U ++ T).length := by rw [List.length_append]; omega
    have ih := gs_l1 d (i + 1) (b && decide (csum (U ++ T)[i] C T % (97 : Nat) = ((U.count (U ++ T)[i] : Nat) : Int) % (97 : Nat))) (by omega) (by
      rw [Bool.and_eq_true, decide_eq_true_iff, hb]
      constructor
      · rintro ⟨h1, h2⟩ j hj hji
        by_cases ej : j = i
        · subst ej; exact Cg.of_mod h2
        · exact h1 j hj (by omega)
      · exact fun h => ⟨fun j hj hji => h j hj (by omega), (h i iW (by omega)).mod_eq⟩)
    have hj : Ev (fun k => gSums_.j3 k m r w U T C b i) true := by
      by_cases c : i < m
      · obtain ⟨iU, e1, rU⟩ := hU.nth c
        rw [List.getElem_append_left iU] at ih
        have h2 := gs_l2 hm hr hw hU hT hC uC rU (b := b) (i := i) (by omega) ih r 0 0 (by omega) (by decide) (by decide) (by rw [List.drop_zero, List.drop_zero, Int.zero_add]; exact Cg.refl _ _)
        refine Ev.succ (fun k => ?_) h2
        rw [gSums_.j3, if_pos (by omega), if_pos (by omega), if_pos (by omega), if_pos (by omega), e1]
        rfl
      · obtain ⟨iT, e1, rT⟩ := hT.nth (i := i - m) (by omega)
        have eT : (U ++ T)[i] = T[i - m] := by
          rw [List.getElem_append_right (by omega)]
          congr 1
          omega
        rw [eT] at ih
        have ei : wrap64 ((i : Int) - (m : Int)) = ((i - m : Nat) : Int) := by rw [w64 (by omega) (by omega)]; omega
        have h3 := gs_l3 hm hr hw hU hT hC uC rT (b := b) (i := i) (by omega) ih r 0 0 (by omega) (by decide) (by decide) (by rw [List.drop_zero, List.drop_zero, Int.zero_add]; exact Cg.refl _ _)
        refine Ev.succ (fun k => ?_) h3
        rw [gSums_.j3, if_pos (by omega), if_neg (by omega), ei, if_pos (by omega), if_pos (by omega), e1]
        rfl
    refine Ev.succ (fun k => ?_) hj
    rw [gSums_.l1, ew, if_pos (by omega)]
theorem gs_j1 : Ev (fun k => gSums_.j1 k m r w U T C) true :=
  Ev.succ (fun k => by rw [gSums_.j1]; rfl) (gs_l1 hm hr hw hU hT hC uC (m + r) 0 true (by omega) ⟨fun _ j _ h => by omega, fun _ => rfl⟩)
end
theorem OkL.set {n w : Nat} {L : List (List Int)} (h : OkL n w L) {v : List Int} (hv : Rw w v) (i : Nat) : OkL n w (L.set i v) := ⟨by rw [List.length_set]; exact h.1, fun x hx => by
  rcases List.mem_or_eq_of_mem_set hx with hx | rfl
  · exact h.2 _ hx
  · exact hv⟩
theorem gs_l0 {m r w : Nat} (hm : m ≤ 4) (hr : 1 ≤ r ∧ r ≤ 4) (hw : 1 ≤ w ∧ w ≤ 2) {T : List (List Int)} (hT : OkL r w T) : ∀ (d i : Nat) (U : List (List Int)) (C : List Int), i + d = m → OkL m w U → C.length = r → UL C → Ev (fun k => gSums_.l0 k m r w U T C i) true
  | 0, i, U, C, e, hU, hC, uC => by
    refine Ev.succ (fun k => ?_) (gs_j1 hm hr hw hU hT hC uC)
    rw [gSums_.l0, if_neg (by omega)]
  | d + 1, i, U, C, e, hU, hC, uC => by
    obtain ⟨iU, e1, rU⟩ := hU.nth (i := i) (by omega)
    have hx := rU.2 (co U[i] 0) (co_mem (by rw [rU.1]; omega))
    have lt := rU.1
    obtain ⟨x, ex⟩ : ∃ x : Nat, co U[i] 0 = (x : Int) := ⟨(co U[i] 0).toNat, by omega⟩
    rw [ex] at hx
    have hlt : x % r < r := Nat.mod_lt _ (by omega)
    obtain ⟨iT, e2, rT⟩ := hT.nth hlt
    have et : Int.tmod (wrap64 (rd U[i] 0)) (r : Int) = ((x % r : Nat) : Int) := by
      rw [show rd U[i] 0 = co U[i] 0 from rd_nat U[i] 0, ex, w64 (by omega) (by omega), tmod_nn (by omega), Int.natCast_emod]
    obtain ⟨K, hk⟩ := Ev.get (gs_l0 hm hr hw hT d (i + 1) (U.set i T[x % r]) (C.set (x % r) (IntKind.u64.wrap (co C (x % r) + 1))) (by omega) (hU.set rT i) (by rw [List.length_set]; exact hC) (uC.set (by rw [IntKind.wrap_u64]; unfold Pure.U; omega) _))
    have lU := hU.1
    have lT := hT.1
    refine Ev.mks K fun k g => ?_
    rw [gSums_.l0, if_pos (by omega), if_pos (by omega), if_pos (by omega), e1, if_pos (by omega), if_neg (by omega), et, if_pos (by omega), if_pos (by omega), if_pos (by omega), e2, rd_nat, w64_succ (by omega), Int.toNat_natCast, Int.toNat_natCast]
    exact hk k g
theorem gs_tm0 {a : Int} (ha : (Lit.int .u8 a).wf = true) {n : Nat} (hn : 0 < n) (hn2 : n ≤ 100) : ∃ m : Nat, wrap64 (Int.tmod a n) = (m : Int) ∧ m + 1 ≤ n := by
  simp [Lit.wf, IntKind.min, IntKind.max, IntKind.bits, IntKind.signed] at ha
  have h1 := Int.emod_nonneg a (show (n : Int) ≠ 0 by omega)
  have h2 := Int.emod_lt_of_pos a (show (0 : Int) < n by omega)
  refine ⟨(a % n).toNat, ?_, by omega⟩
  rw [tmod_nn (by omega), w64 (by omega) (by omega)]
  omega
theorem gs_tm1 {a : Int} (ha : (Lit.int .u8 a).wf = true) {n : Nat} (hn : 0 < n) (hn2 : n ≤ 100) : ∃ m : Nat, wrap64 (1 + wrap64 (Int.tmod a n)) = (m : Int) ∧ 1 ≤ m ∧ m ≤ n := by
  obtain ⟨m, e, h⟩ := gs_tm0 ha hn hn2
  exact ⟨m + 1, by rw [e, w64 (by omega) (by omega)]; omega, by omega, h⟩
theorem UL_cpy {n : Nat} {l : List Int} (h : UL l) : (cpyAt (List.replicate n 0) 0 l).length = n ∧ UL (cpyAt (List.replicate n 0) 0 l) := by
  refine ⟨by rw [length_cpyAt _ _ _ (Nat.zero_le _), List.length_replicate], fun x hx => ?_⟩
  unfold cpyAt splice at hx
  have h0 := UL.replicate n
  simp only [List.mem_append] at hx
  rcases hx with hx | hx | hx
  · exact h0 _ (List.mem_of_mem_take hx)
  · exact h _ (List.mem_of_mem_take hx)
  · exact h0 _ (List.mem_of_mem_drop hx)
theorem GapSums (a b c : Int) (l1 l2 : List (List Int)) (l5 : List Int) (right : Bool) (ha : (Lit.int .u8 a).wf = true) (hb : (Lit.int .u8 b).wf = true) (hc : (Lit.int .u8 c).wf = true) (u1 : ∀ r ∈ l1, r.length * 8 ≤ 140737488351232 ∧ ∀ z ∈ r, (Lit.int .u64 z).wf = true) (u2 : ∀ r ∈ l2, r.length * 8 ≤ 140737488351232 ∧ ∀ z ∈ r, (Lit.int .u64 z).wf = true) (_ : l5.length * 8 ≤ 140737488351232) (u5 : ∀ x ∈ l5, (Lit.int .u64 x).wf = true) :
    ∃ k, gSums_.f k a b c l1 l2 l5 right = some true := by
  obtain ⟨m, em, hm⟩ := gs_tm0 ha (n := 5) (by decide) (by decide)
  obtain ⟨r, er, hr⟩ := gs_tm1 hb (n := 4) (by decide) (by decide)
  obtain ⟨w, ew, hw⟩ := gs_tm1 hc (n := 2) (by decide) (by decide)
  obtain ⟨A, h1, hA⟩ := s_list (l := l1) (fun v hv => UL.of_wf (u1 v hv).2) (n := m) (w := w) (by omega) (by omega)
  obtain ⟨B, h2, hB⟩ := s_list (l := l2) (fun v hv => UL.of_wf (u2 v hv).2) (n := r) (w := w) (by omega) (by omega)
  have hcp := UL_cpy (n := r) (UL.of_wf u5)
  obtain ⟨K1, k1⟩ := Ev.get h1
  obtain ⟨K2, k2⟩ := Ev.get h2
  obtain ⟨K3, k3⟩ := Ev.get (gs_l0 (m := m) (by omega) hr hw hB m 0 A (List.replicate r 0) (by omega) hA List.length_replicate (UL.replicate r))
  obtain ⟨K4, k4⟩ := Ev.get (gs_j1 (m := m) (by omega) hr hw hA hB hcp.1 hcp.2)
  refine ⟨K1 + K2 + K3 + K4, ?_⟩
  rw [gSums_.f, show wrap64 (Int.tmod a 5) = (m : Int) from em, show wrap64 (1 + wrap64 (Int.tmod b 4)) = (r : Int) from er, show wrap64 (1 + wrap64 (Int.tmod c 2)) = (w : Int) from ew, k1 _ (by omega), Option.bind_some, k2 _ (by omega), Option.bind_some, if_pos (by omega), if_pos (by omega), Int.toNat_natCast]
  by_cases c : right = true
  · rw [if_pos c]; exact k3 _ (by omega)
  · rw [if_neg c]; exact k4 _ (by omega)
end Go.Proofs.YtbjeemlbjkmhiaaDoor.Pure

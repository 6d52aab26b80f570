/- Extend returns what the chapter specifies: for every input. -/
import Derived.Test.YtedapdagagkajaaDoorSpecs
import Derived.Test.YtedapdagagkajaaDoorQ12
import Derived.Test.YtedapdagagkajaaDoorQ15
import Derived.Test.YtedapdagagkajaaDoorQ3
namespace Go.Proofs.YtedapdagagkajaaDoor.Pure
open Go.RowKit Go.Proofs.YtedapdagagkajaaDoor.Q Go.Proofs.YtedapdagagkajaaDoor.Num Go.Proofs.YtedapdagagkajaaDoor.Pol Go.Proofs.YtedapdagagkajaaDoorW.PrintWords Go.Proofs.YtedapdagagkajaaDoorW.PrintLast Go.Proofs.YtedapdagagkajaaDoorW.PrintMore

/-- Cut columns. -/
def cut5 (l : List (List Int)) : List (List Int) := (l.take 5).map fun r => r.take 16
theorem cut5_length (l : List (List Int)) : (cut5 l).length = min 5 l.length := by simp [cut5]
theorem lc_cut5 {l : List (List Int)} {i : Nat} (h : i < (cut5 l).length) : lc (cut5 l) i = (lc l i).take 16 := by
  have h1 := cut5_length l
  rw [lc_lt h, lc_lt (by omega)]
  simp [cut5]
theorem columns_l {l : List (List Int)} (hw : ∀ r ∈ l, r.length * 8 ≤ 140737488351232) : ∀ (d i : Nat), i + d = (cut5 l).length → Ev (fun K => attestorlaw05_columns.l0 K l 5 16 ((cut5 l).take i) i) (cut5 l) := by
  have hc := cut5_length l
  intro d
  induction d with
  | zero =>
    intro i hi
    refine Ev.mks 0 fun K _ => ?_
    rw [attestorlaw05_columns.l0, List.take_of_length_le (by omega)]
    by_cases q : i < l.length
    · rw [if_pos (by omega), if_neg (by omega)]
    · rw [if_neg (by omega)]
  | succ d ih =>
    intro i hi
    have hil : i < l.length := by omega
    have e : (cut5 l).take i ++ [(lc l i).take 16] = (cut5 l).take (i + 1) := by
      rw [← lc_cut5 (by omega), lc_lt (by omega)]
      exact List.take_append_getElem (by omega)
    refine Ev.succ (fun K => ?_) (ih (i + 1) (by omega))
    rw [attestorlaw05_columns.l0, if_pos (by omega), if_pos (by omega), if_pos (by omega), rd_L1_nat, show (16 : Int) = ((16 : Nat) : Int) from rfl, s_own (hw _ (lc_mem hil)), Option.bind_some, if_pos (by rw [List.length_take]; omega), w64_succ (by omega), e]
theorem s_columns {l : List (List Int)} (hw : ∀ r ∈ l, r.length * 8 ≤ 140737488351232) : Ev (fun K => attestorlaw05_columns.f K l 5 16) (cut5 l) := columns_l hw (cut5 l).length 0 (by omega)
theorem cut5_cut5 (l : List (List Int)) : cut5 (cut5 l) = cut5 l := by
  have h1 := cut5_length l
  have h2 := cut5_length (cut5 l)
  refine ext_lc (by omega) fun i hi => ?_
  rw [lc_cut5 hi, lc_cut5 (by omega), List.take_take, Nat.min_self]
section rows
variable {f b : Int} {C : List (List Int)} (h5 : C.length ≤ 5) (hC : ∀ i, (lc C i).length ≤ 16) (uC : ∀ i, UL (lc C i)) (hb : ∀ k : Nat, k ≤ 4 → 0 ≤ b → (k : Int) + b ≤ gr f → (k : Int) + b ≤ 10)
include h5 hC uC hb
theorem extend_l1 : ∀ (d i : Nat) (x y : List (List Int)), i + d = C.length → x.length = C.length → y.length = i → (∀ t, t < i → lc x t = lc y t) → (∀ t, (lc y t).length ≤ 1024) →
    ∃ r : List (List Int) × Int, Ev (fun K => code_Extend.l1 K f b x C (C.length : Int) i) r ∧ Ev (fun K => attestorref05_Extend.l1 K f C b y i) r ∧ r.1.length ≤ 5 ∧ ∀ t, (lc r.1 t).length ≤ 1024 := by
  intro d
  induction d with
  | zero =>
    intro i x y hi hx hy he hn
    have e : x = y := ext_lc (by omega) fun t ht => he t (by omega)
    refine ⟨(y, 0), Ev.mks 0 fun K _ => ?_, Ev.mks 0 fun K _ => ?_, ?_, hn⟩
    · rw [code_Extend.l1, if_neg (by omega), e]
    · rw [attestorref05_Extend.l1, if_neg (by omega)]
    · show y.length ≤ 5
      omega
  | succ d ih =>
    intro i x y hi hx hy he hn
    have hk : ∀ k : Nat, (lc C i).length = 2 ^ k → k ≤ 4 := fun k hk => by
      rcases Nat.lt_or_ge 4 k with q | q
      · have := Nat.pow_le_pow_right (n := 2) (by omega) (show 5 ≤ k from q)
        have := hC i
        omega
      · exact q
    obtain ⟨r, e1, e2, e3⟩ := both_Widen (f := f) (b := b) (v := lc C i) (by have := hC i; omega) (uC i) (fun k q => hb k (hk k q))
    obtain ⟨K1, k1⟩ := Ev.get e1
    obtain ⟨K2, k2⟩ := Ev.get e2
    by_cases q : r.2 = 0
    · obtain ⟨R, g1, g2, g3, g4⟩ := ih (i + 1) (x.set i r.1) (y ++ [r.1]) (by omega) (by simpa using hx) (by rw [List.length_append, hy]; rfl) (fun t ht => by
        rw [lc_set (by omega), lc_append, hy]
        by_cases c : t = i
        · subst c; rw [if_pos rfl, if_neg (by omega), Nat.sub_self]; rfl
        · rw [if_neg c, if_pos (by omega)]; exact he t (by omega)) (fun t => by
        rw [lc_append]
        split
        · exact hn t
        · rcases Nat.eq_zero_or_pos (t - y.length) with c | c
          · rw [c]; exact e3
          · rw [lc_over (by simp; omega)]; simp)
      obtain ⟨K3, k3⟩ := Ev.get g1
      obtain ⟨K4, k4⟩ := Ev.get g2
      refine ⟨R, Ev.mks (K1 + K2 + K3 + K4) fun K hK => ?_, Ev.mks (K1 + K2 + K3 + K4) fun K hK => ?_, g3, g4⟩
      · rw [code_Extend.l1, if_pos (by omega), if_pos (by omega), if_pos (by omega), rd_L1_nat, k1 K (by omega), Option.bind_some, if_pos q, if_pos (by omega), w64_succ (by omega), Int.toNat_natCast]
        exact k3 K (by omega)
      · rw [attestorref05_Extend.l1, if_pos (by omega), if_pos (by omega), rd_L1_nat, k2 K (by omega), Option.bind_some, if_pos q, if_pos (by omega), w64_succ (by omega)]
        exact k4 K (by omega)
    · refine ⟨([], r.2), Ev.mks (K1 + K2) fun K hK => ?_, Ev.mks (K1 + K2) fun K hK => ?_, by simp, fun t => by rw [lc_over (by simp)]; simp⟩
      · rw [code_Extend.l1, if_pos (by omega), if_pos (by omega), if_pos (by omega), rd_L1_nat, k1 K (by omega), Option.bind_some, if_neg q]
      · rw [attestorref05_Extend.l1, if_pos (by omega), if_pos (by omega), rd_L1_nat, k2 K (by omega), Option.bind_some, if_neg q]
theorem extend_l0 : ∀ (d i : Nat), i + d = C.length →
    ∃ r : List (List Int) × Int, Ev (fun K => code_Extend.l0 K f C b C (C.length : Int) i) r ∧ Ev (fun K => attestorref05_Extend.l0 K f C b i) r ∧ r.1.length ≤ 5 ∧ ∀ t, (lc r.1 t).length ≤ 1024 := by
  intro d
  induction d with
  | zero =>
    intro i hi
    obtain ⟨R, g1, g2, g3, g4⟩ := extend_l1 h5 hC uC hb C.length 0 (List.replicate C.length []) [] (by omega) (by simp) rfl (fun t ht => by omega) (fun t => by rw [lc_over (by simp)]; simp)
    obtain ⟨K3, k3⟩ := Ev.get g1
    obtain ⟨K4, k4⟩ := Ev.get g2
    refine ⟨R, Ev.mks (K3 + K4) fun K hK => ?_, Ev.mks (K3 + K4) fun K hK => ?_, g3, g4⟩
    · rw [code_Extend.l0, if_neg (by omega), if_pos (by omega), if_pos (by rw [Int.toNat_natCast]; omega), Int.toNat_natCast]
      exact k3 K (by omega)
    · rw [attestorref05_Extend.l0, if_neg (by omega)]
      exact k4 K (by omega)
  | succ d ih =>
    intro i hi
    by_cases q : (lc C i).length = (lc C 0).length
    · obtain ⟨R, g1, g2, g3, g4⟩ := ih (i + 1) (by omega)
      obtain ⟨K3, k3⟩ := Ev.get g1
      obtain ⟨K4, k4⟩ := Ev.get g2
      refine ⟨R, Ev.mks (K3 + K4) fun K hK => ?_, Ev.mks (K3 + K4) fun K hK => ?_, g3, g4⟩
      · rw [code_Extend.l0, if_pos (by omega), if_pos (by omega), if_pos (by omega), if_pos (by omega), rd_L1_nat, show (0 : Int) = ((0 : Nat) : Int) from rfl, rd_L1_nat, if_pos (by rw [q]), w64_succ (by omega)]
        exact k3 K (by omega)
      · rw [attestorref05_Extend.l0, if_pos (by omega), if_pos (by omega), if_pos (by omega), rd_L1_nat, show (0 : Int) = ((0 : Nat) : Int) from rfl, rd_L1_nat, if_pos (by rw [q]), w64_succ (by omega)]
        exact k4 K (by omega)
    · have q2 : ¬ ((lc C i).length : Int) = ((lc C 0).length : Int) := by omega
      refine ⟨([], 1), Ev.mks 0 fun K hK => ?_, Ev.mks 0 fun K hK => ?_, by simp, fun t => by rw [lc_over (by simp)]; simp⟩
      · rw [code_Extend.l0, if_pos (by omega), if_pos (by omega), if_pos (by omega), if_pos (by omega), rd_L1_nat, show (0 : Int) = ((0 : Nat) : Int) from rfl, rd_L1_nat, if_neg q2]
      · rw [attestorref05_Extend.l0, if_pos (by omega), if_pos (by omega), if_pos (by omega), rd_L1_nat, show (0 : Int) = ((0 : Nat) : Int) from rfl, rd_L1_nat, if_neg q2]
theorem both_Extend : ∃ r : List (List Int) × Int, Ev (fun K => code_Extend.f K f C b) r ∧ Ev (fun K => attestorref05_Extend.f K f C b) r ∧ r.1.length ≤ 5 ∧ ∀ t, (lc r.1 t).length ≤ 1024 := by
  rcases fp_or f with ⟨p, h⟩ | h
  · obtain ⟨R, g1, g2, g3, g4⟩ := extend_l0 h5 hC uC hb C.length 0 (by omega)
    refine ⟨R, Ev.congr (fun K => ?_) g1, Ev.congr (fun K => ?_) g2, g3, g4⟩
    · rw [code_Extend.f, s_Valid h, Option.bind_some, if_pos rfl]
      rfl
    · rw [attestorref05_Extend.f, r_Valid h, Option.bind_some, if_pos rfl]
      rfl
  · refine ⟨([], 1), Ev.all fun K => ?_, Ev.all fun K => ?_, by simp, fun t => by rw [lc_over (by simp)]; simp⟩
    · rw [code_Extend.f, b_Valid h, Option.bind_some, if_neg (by decide)]
    · rw [attestorref05_Extend.f, br_Valid h, Option.bind_some, if_neg (by decide)]
theorem extends_j : Ev (fun K => attestorlaw05_CodeExtends.j0 K f C b C) true ∧ Ev (fun K => attestorlaw05_CodeExtends.j1 K f C b C) true := by
  obtain ⟨r, e1, e2, e3, e4⟩ := both_Extend h5 hC uC hb
  obtain ⟨K1, k1⟩ := Ev.get e1
  obtain ⟨K2, k2⟩ := Ev.get e2
  obtain ⟨K3, k3⟩ := Ev.get (r_SameLists (x := r.1) (fun t => by have := e4 t; omega) (by omega))
  obtain ⟨K4, k4⟩ := Ev.get (r_SameLists (x := C) (fun t => by have := hC t; omega) (by omega))
  obtain ⟨K5, k5⟩ := Ev.get s_works
  refine ⟨Ev.mks (K1 + K2 + K3 + K4 + K5) fun K hK => ?_, Ev.mks (K1 + K2 + K3 + K4 + K5) fun K hK => ?_⟩
  · rw [attestorlaw05_CodeExtends.j0, k1 K (by omega), Option.bind_some, k2 K (by omega), Option.bind_some, if_pos rfl, k3 K (by omega), Option.bind_some, if_pos rfl, k4 K (by omega), Option.bind_some, if_pos rfl, k5 K (by omega), Option.bind_some]
  · rw [attestorlaw05_CodeExtends.j1, k1 K (by omega), Option.bind_some, k2 K (by omega), Option.bind_some, if_pos rfl, k3 K (by omega), Option.bind_some, if_pos rfl, k4 K (by omega), Option.bind_some, if_pos rfl, k5 K (by omega), Option.bind_some]
end rows
theorem CodeExtends (f : Int) (l : List (List Int)) (b : Int) (hw : ∀ r ∈ l, r.length * 8 ≤ 140737488351232 ∧ ∀ z ∈ r, (Lit.int .u64 z).wf = true) : ∃ k, attestorlaw05_CodeExtends.f k f l b = some true := by
  have hc := cut5_length l
  have n16 : ∀ i, (lc (cut5 l) i).length ≤ 16 := fun i => by
    rcases Nat.lt_or_ge i (cut5 l).length with q | q
    · rw [lc_cut5 q, List.length_take]; omega
    · rw [lc_over q]; simp
  have uC : ∀ i, UL (lc (cut5 l) i) := fun i => by
    rcases Nat.lt_or_ge i (cut5 l).length with q | q
    · rw [lc_cut5 q]
      exact (UL.of_wf (hw _ (lc_mem (by omega))).2).take 16
    · rw [lc_over q]; exact UL.nil
  obtain ⟨K1, k1⟩ := Ev.get (s_columns (l := l) fun r hr => (hw r hr).1)
  have c2 := s_columns (l := cut5 l) (fun r hr => by
    obtain ⟨j, hj, rfl⟩ := List.getElem_of_mem hr
    have := n16 j
    rw [lc_lt hj] at this
    omega)
  rw [cut5_cut5] at c2
  obtain ⟨K2, k2⟩ := Ev.get c2
  have hgr := gr_le f
  refine Ev.ex (F := fun K => attestorlaw05_CodeExtends.f K f l b) ?_
  by_cases q : b > 2
  · by_cases q2 : b ≤ 18
    · obtain ⟨K3, k3⟩ := Ev.get (extends_j (f := f) (b := Int.tmod b 3) (C := cut5 l) (by omega) n16 uC (fun k hk _ _ => by rw [tmod_nn (by omega)]; omega)).1
      refine Ev.mk (K1 + K2 + K3) fun K hK => ?_
      rw [attestorlaw05_CodeExtends.f, k1 K (by omega), Option.bind_some, k2 K (by omega), Option.bind_some, if_pos q, if_pos q2]
      exact k3 K (by omega)
    · obtain ⟨K3, k3⟩ := Ev.get (extends_j (f := f) (b := b) (C := cut5 l) (by omega) n16 uC (fun k hk _ _ => by omega)).1
      refine Ev.mk (K1 + K2 + K3) fun K hK => ?_
      rw [attestorlaw05_CodeExtends.f, k1 K (by omega), Option.bind_some, k2 K (by omega), Option.bind_some, if_pos q, if_neg q2]
      exact k3 K (by omega)
  · obtain ⟨K3, k3⟩ := Ev.get (extends_j (f := f) (b := b) (C := cut5 l) (by omega) n16 uC (fun k hk _ _ => by omega)).2
    refine Ev.mk (K1 + K2 + K3) fun K hK => ?_
    rw [attestorlaw05_CodeExtends.f, k1 K (by omega), Option.bind_some, k2 K (by omega), Option.bind_some, if_neg q]
    exact k3 K (by omega)
end Go.Proofs.YtedapdagagkajaaDoor.Pure

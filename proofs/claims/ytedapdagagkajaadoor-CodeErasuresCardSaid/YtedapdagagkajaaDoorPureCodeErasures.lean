/- Fill gives back a word from enough known places, and none where a known value is another: for every input. -/
import Derived.Test.YtedapdagagkajaaDoorSpecs
import Derived.Test.YtedapdagagkajaaDoorQ20
namespace Go.Proofs.YtedapdagagkajaaDoor.Pure
open Go.RowKit Go.Proofs.YtedapdagagkajaaDoor.Q Go.Proofs.YtedapdagagkajaaDoor.Num Go.Proofs.YtedapdagagkajaaDoor.Pol Go.Proofs.YtedapdagagkajaaDoorW.PrintWords Go.Proofs.YtedapdagagkajaaDoorW.PrintLast Go.Proofs.YtedapdagagkajaaDoorW.PrintMore

theorem kb_set {K : List Bool} {i : Nat} (h : i < K.length) (b : Bool) (j : Nat) : kb (K.set i b) j = if j = i then b else kb K j := by
  unfold kb
  rw [List.getD_eq_getElem?_getD, List.getD_eq_getElem?_getD, List.getElem?_set]
  by_cases c : i = j
  · subst c; rw [if_pos rfl, if_pos rfl, if_pos h]; rfl
  · rw [if_neg c, if_neg (fun q => c q.symm)]
theorem cn_congr {K L : List Bool} : ∀ i : Nat, (∀ j, j < i → kb K j = kb L j) → cn K i = cn L i
  | 0, _ => rfl
  | i + 1, h => by rw [cn, cn, cn_congr i fun j hj => h j (by omega), h i (by omega)]
theorem cn_le (K : List Bool) : ∀ i : Nat, cn K i ≤ i
  | 0 => Nat.le_refl _
  | i + 1 => by
    have := cn_le K i
    rw [cn]; split <;> omega
theorem cn_all {K : List Bool} : ∀ i : Nat, (∀ j, j < i → kb K j = true) → cn K i = i
  | 0, _ => rfl
  | i + 1, h => by rw [cn, cn_all i fun j hj => h j (by omega), if_pos (h i (by omega))]
theorem cn_set {K : List Bool} {i : Nat} (h : i < K.length) (hk : kb K i = false) : ∀ j : Nat, cn (K.set i true) j = cn K j + (if i < j then 1 else 0)
  | 0 => by simp [cn]
  | j + 1 => by
    rw [cn, cn, cn_set h hk j, kb_set h]
    by_cases c : j = i
    · subst c
      rw [if_pos rfl, hk, if_neg (by omega), if_pos rfl, if_neg (by decide), if_pos (by omega)]
    · rw [if_neg c]
      have e : (if i < j + 1 then (1 : Nat) else 0) = (if i < j then 1 else 0) := by
        by_cases q : i < j
        · rw [if_pos q, if_pos (by omega)]
        · rw [if_neg q, if_neg (by omega)]
      rw [e]; omega
theorem cn_last {K : List Bool} {t : Nat} (hk : kb K t = true) : ∀ m : Nat, t < m → (∀ j, t < j → j < m → kb K j = false) → cn K m = cn K t + 1
  | 0, h, _ => by omega
  | m + 1, h, hz => by
    rw [cn]
    by_cases c : t = m
    · subst c; rw [if_pos hk]
    · rw [cn_last hk m (by omega) fun j h1 h2 => hz j h1 (by omega), hz m (by omega) (by omega), if_neg (by decide)]
section dom
variable {f : Int} {p k : Nat} {s : Int} (z : Dm f p k s)
include z
theorem pnt_v (P : List Int) {j : Nat} (hj : j < 2 ^ k) : co (wop f p k s P) j % p = ev P (pnt f p k s j) % p := by
  have _ := z
  rw [co_wop hj, Int.emod_emod]
variable (h5 : k ≤ 5) {P : List Int} (uP : UL P) (hP : nrm p P = P) (lP : P.length ≤ 2 ^ k)
include h5 uP hP lP
theorem er_end {K : List Bool} (hK : K.length = 2 ^ k) (hc : P.length ≤ cn K (2 ^ k)) {v : List Int} (hv : v.length = 2 ^ k) (uv : UL v) (ha : ∀ j, j < 2 ^ k → kb K j = true → co v j = co (wop f p k s P) j) {t : Int}
    (ht : (t = -1) ∨ ∃ j : Nat, t = (j : Int) ∧ j < 2 ^ k ∧ kb K j = true ∧ ∀ i, j < i → i < 2 ^ k → kb K i = false) :
    Ev (fun F => attestorlaw05_CodeErasures.l2 F ((2 ^ k : Nat) : Int) (P.length : Int) (wop f p k s P) K ((cn K (2 ^ k) : Nat) : Int) v t ((2 ^ k : Nat) : Int) f k s) true := by
  have h32 : 2 ^ k ≤ 2 ^ 5 := Nat.pow_le_pow_right (by omega) h5
  obtain ⟨K1, k1⟩ := Ev.get (s_Fill z (by omega) hv hK lP uv uP hP (Nat.le_refl _) hc (fun j h1 h2 => by rw [ha j h1 h2]; exact pnt_v z P h1))
  obtain ⟨K2, k2⟩ := Ev.get (s_sameD (a := wop f p k s P) (b := wop f p k s P) (by rw [wop_length]; omega))
  obtain ⟨K3, k3⟩ := Ev.get s_works
  have tail : Ev (fun F => attestorlaw05_CodeErasures.j5 F (P.length : Int) K ((cn K (2 ^ k) : Nat) : Int) v t f k s) true := by
    by_cases c : cn K (2 ^ k) ≤ P.length
    · refine Ev.mks K3 fun F hF => ?_
      rw [attestorlaw05_CodeErasures.j5, if_pos (by omega), k3 F hF, Option.bind_some]
    · rcases ht with rfl | ⟨j, rfl, hj, hb, hz⟩
      · refine Ev.mks K3 fun F hF => ?_
        rw [attestorlaw05_CodeErasures.j5, if_neg (by omega), if_pos (by omega), k3 F hF, Option.bind_some]
      · have hl := cn_last hb (2 ^ k) hj hz
        have hmod := z.h.mod (ev P (pnt f p k s j))
        have h1 := z.h.one
        have ej : co v j = ev P (pnt f p k s j) % p := by rw [ha j hj hb, co_wop hj]
        have hA := s_Add z.h (a := co v j) (b := 1) (U.co uv j).1 (by omega)
        have hm2 := z.h.mod (co v j + 1)
        have uv2 : UL (v.set j ((co v j + 1) % p)) := uv.set (z.h.U _) j
        obtain ⟨K4, k4⟩ := Ev.get (s_Fill_no z (by omega) (v := v.set j ((co v j + 1) % p)) (K := K) (n := P.length) (by simpa using hv) hK lP uv2 uP hP (Nat.le_refl _) hc (fun i g1 g2 g3 => by
          have hne : i ≠ j := fun q => by subst q; omega
          rw [co_set (by omega), if_neg hne, ha i g1 g2]
          exact pnt_v z P g1) hj hb (by
          rw [co_set (by omega), if_pos rfl, Int.emod_emod, ej]
          intro q
          have c1 : Cg p (ev P (pnt f p k s j) % p + 1) (ev P (pnt f p k s j) % p) := (Cg.of_mod q).trans (Cg.mod _ _).symm
          have c2 := c1.sub_zero
          rw [show ev P (pnt f p k s j) % p + 1 - ev P (pnt f p k s j) % p = 1 by omega] at c2
          exact one_not_zero z.h c2))
        have h1j : (j : Int) < (v.length : Int) := by rw [hv]; exact Int.ofNat_lt.2 hj
        refine Ev.mks (K3 + K4) fun F hF => ?_
        rw [attestorlaw05_CodeErasures.j5, if_neg (by omega), if_neg (by omega), if_pos (Int.natCast_nonneg _), if_pos h1j, rd_nat, hA, Option.bind_some, Int.toNat_natCast, k4 F (by omega), Option.bind_some]
        dsimp only
        rw [if_pos rfl, k3 F (by omega), Option.bind_some]
  obtain ⟨K5, k5⟩ := Ev.get tail
  refine Ev.mks (K1 + K2 + K5) fun F hF => ?_
  rw [attestorlaw05_CodeErasures.l2, if_neg (Int.lt_irrefl _), k1 F (by omega), Option.bind_some]
  dsimp only
  rw [if_pos rfl, k2 F (by omega), Option.bind_some, if_pos (by simp), k5 F (by omega)]
theorem er_l2 {K : List Bool} (hK : K.length = 2 ^ k) (hc : P.length ≤ cn K (2 ^ k)) : ∀ (d i : Nat) (v : List Int) (t : Int), i + d = 2 ^ k → v.length = i → UL v → (∀ j, j < i → kb K j = true → co v j = co (wop f p k s P) j) →
    ((t = -1) ∨ ∃ j : Nat, t = (j : Int) ∧ j < i ∧ kb K j = true ∧ ∀ e, j < e → e < i → kb K e = false) →
    Ev (fun F => attestorlaw05_CodeErasures.l2 F ((2 ^ k : Nat) : Int) (P.length : Int) (wop f p k s P) K ((cn K (2 ^ k) : Nat) : Int) v t i f k s) true := by
  have h32 : 2 ^ k ≤ 2 ^ 5 := Nat.pow_le_pow_right (by omega) h5
  intro d
  induction d with
  | zero =>
    intro i v t hi hv uv ha ht
    obtain rfl : i = 2 ^ k := by omega
    exact er_end z h5 uP hP lP hK hc hv uv ha ht
  | succ d ih =>
    intro i v t hi hv uv ha ht
    have hii : i < 2 ^ k := by omega
    have g1 : (i : Int) < ((2 ^ k : Nat) : Int) := Int.ofNat_lt.2 hii
    have g2 : (i : Int) < (K.length : Int) := by rw [hK]; exact g1
    have g3 : (i : Int) < ((wop f p k s P).length : Int) := by rw [wop_length]; exact g1
    by_cases c : kb K i = true
    · refine Ev.succ (fun F => ?_) (ih (i + 1) (v ++ [co (wop f p k s P) i]) i (by omega) (by simp [hv]) (uv.append (UL.cons (U.co (wop_UL z P) i) UL.nil)) (fun j hj hb => ?_) (Or.inr ⟨i, rfl, by omega, c, fun e h1 h2 => by omega⟩))
      · rw [attestorlaw05_CodeErasures.l2, if_pos g1, if_pos (Int.natCast_nonneg _), if_pos g2, rdOf_kb, if_pos c, if_pos g3, if_pos (by omega), rd_nat, w64_succ (by omega)]
      · rw [co_append, hv]
        by_cases q : j < i
        · rw [if_pos q]; exact ha j q hb
        · obtain rfl : j = i := by omega
          rw [if_neg q, Nat.sub_self]; rfl
    · refine Ev.succ (fun F => ?_) (ih (i + 1) (v ++ [(i : Int)]) t (by omega) (by simp [hv]) (uv.append (UL.cons ⟨by omega, by omega⟩ UL.nil)) (fun j hj hb => ?_) (ht.imp id fun ⟨j, e1, e2, e3, e4⟩ => ⟨j, e1, by omega, e3, fun e h1 h2 => by
          by_cases q : e = i
          · subst q; exact Bool.eq_false_iff.2 c
          · exact e4 e h1 (by omega)⟩))
      · rw [attestorlaw05_CodeErasures.l2, if_pos g1, if_pos (Int.natCast_nonneg _), if_pos g2, rdOf_kb, if_neg c, if_pos (by omega), wu64 (by omega) (by omega), w64_succ (by omega)]
      · have q : j < i := by
          rcases Nat.lt_or_ge j i with q | q
          · exact q
          · obtain rfl : j = i := by omega
            exact absurd hb c
        rw [co_append, hv, if_pos q]; exact ha j q hb
theorem er_j2 {K : List Bool} (hK : K.length = 2 ^ k) (hc : P.length ≤ cn K (2 ^ k)) : Ev (fun F => attestorlaw05_CodeErasures.j2 F ((2 ^ k : Nat) : Int) (P.length : Int) (wop f p k s P) K ((cn K (2 ^ k) : Nat) : Int) f k s) true := by
  obtain ⟨K1, k1⟩ := Ev.get (er_l2 z h5 uP hP lP hK hc (2 ^ k) 0 [] (-1) (by omega) rfl UL.nil (fun j hj => by omega) (Or.inl rfl))
  refine Ev.mk (K1 + 2) fun F hF => ?_
  obtain ⟨F, rfl⟩ : ∃ F', F = F' + 2 := ⟨F - 2, by omega⟩
  rw [attestorlaw05_CodeErasures.j2, if_pos (by rw [wop_length]), attestorlaw05_CodeErasures.j3]
  exact k1 F (by omega)
theorem er_l1 : ∀ (d i : Nat) (K : List Bool), i + d = 2 ^ k → K.length = 2 ^ k → (∀ j, j < i → kb K j = true) → Ev (fun F => attestorlaw05_CodeErasures.l1 F ((2 ^ k : Nat) : Int) (P.length : Int) (wop f p k s P) K ((cn K (2 ^ k) : Nat) : Int) i f k s) true := by
  have h32 : 2 ^ k ≤ 2 ^ 5 := Nat.pow_le_pow_right (by omega) h5
  intro d
  induction d with
  | zero =>
    intro i K hi hK ha
    obtain rfl : i = 2 ^ k := by omega
    obtain ⟨K1, k1⟩ := Ev.get (er_j2 z h5 uP hP lP hK (by rw [cn_all _ ha]; exact lP))
    refine Ev.mks K1 fun F hF => ?_
    rw [attestorlaw05_CodeErasures.l1, if_neg (Int.lt_irrefl _)]
    exact k1 F hF
  | succ d ih =>
    intro i K hi hK ha
    have hii : i < 2 ^ k := by omega
    have g1 : (i : Int) < ((2 ^ k : Nat) : Int) := Int.ofNat_lt.2 hii
    have g2 : (i : Int) < (K.length : Int) := by rw [hK]; exact g1
    have hle := cn_le K (2 ^ k)
    by_cases q : cn K (2 ^ k) < P.length
    · by_cases c : kb K i = true
      · refine Ev.succ (fun F => ?_) (ih (i + 1) K (by omega) hK (fun j hj => by
          by_cases e : j = i
          · rw [e]; exact c
          · exact ha j (by omega)))
        rw [attestorlaw05_CodeErasures.l1, if_pos g1, if_pos (by omega), if_pos (Int.natCast_nonneg _), if_pos g2, rdOf_kb, if_pos c, w64_succ (by omega)]
      · have e1 := cn_set (K := K) (i := i) (by omega) (Bool.eq_false_iff.2 c) (2 ^ k)
        rw [if_pos hii] at e1
        have n1 := ih (i + 1) (K.set i true) (by omega) (by simpa using hK) (fun j hj => by
          rw [kb_set (by omega)]
          by_cases e : j = i
          · rw [if_pos e]
          · rw [if_neg e]; exact ha j (by omega))
        rw [e1] at n1
        refine Ev.succ (fun F => ?_) n1
        rw [attestorlaw05_CodeErasures.l1, if_pos g1, if_pos (by omega), if_pos (Int.natCast_nonneg _), if_pos g2, rdOf_kb, if_neg c, w64_succ (by omega), w64_succ (by omega), Int.toNat_natCast]
    · obtain ⟨K1, k1⟩ := Ev.get (er_j2 z h5 uP hP lP hK (by omega))
      refine Ev.mks K1 fun F hF => ?_
      rw [attestorlaw05_CodeErasures.l1, if_pos g1, if_neg (by omega)]
      exact k1 F hF
theorem er_l0 (l : List Bool) : ∀ (d i : Nat) (K : List Bool), i + d = 2 ^ k → K.length = 2 ^ k → Ev (fun F => attestorlaw05_CodeErasures.l0 F l ((2 ^ k : Nat) : Int) (P.length : Int) (wop f p k s P) K ((cn K i : Nat) : Int) i f k s) true := by
  have h32 : 2 ^ k ≤ 2 ^ 5 := Nat.pow_le_pow_right (by omega) h5
  intro d
  induction d with
  | zero =>
    intro i K hi hK
    obtain rfl : i = 2 ^ k := by omega
    obtain ⟨K1, k1⟩ := Ev.get (er_l1 z h5 uP hP lP (2 ^ k) 0 K (by omega) hK (fun j hj => by omega))
    refine Ev.mks K1 fun F hF => ?_
    rw [attestorlaw05_CodeErasures.l0, if_neg (Int.lt_irrefl _)]
    exact k1 F hF
  | succ d ih =>
    intro i K hi hK
    have hii : i < 2 ^ k := by omega
    have g1 : (i : Int) < ((2 ^ k : Nat) : Int) := Int.ofNat_lt.2 hii
    have g2 : (i : Int) < (K.length : Int) := by rw [hK]; exact g1
    have hle := cn_le K i
    have step : ∀ b : Bool, Ev (fun F => if rdOf false (K.set i b) (i : Int) = true then (attestorlaw05_CodeErasures.l0 F l ((2 ^ k : Nat) : Int) (P.length : Int) (wop f p k s P) (K.set i b) (wrap64 (((cn K i : Nat) : Int) + 1)) (wrap64 ((i : Int) + 1)) f k s) else (attestorlaw05_CodeErasures.l0 F l ((2 ^ k : Nat) : Int) (P.length : Int) (wop f p k s P) (K.set i b) ((cn K i : Nat) : Int) (wrap64 ((i : Int) + 1)) f k s)) true := fun b => by
      have e0 : cn (K.set i b) i = cn K i := cn_congr i fun j hj => by rw [kb_set (by omega), if_neg (by omega)]
      have n1 := ih (i + 1) (K.set i b) (by omega) (by simpa using hK)
      rw [cn, e0] at n1
      refine Ev.congr (fun F => ?_) n1
      rw [rdOf_kb]
      by_cases c : kb (K.set i b) i = true
      · rw [if_pos c, if_pos c, w64_succ (by omega), w64_succ (by omega)]
      · rw [if_neg c, if_neg c, w64_succ (by omega)]
        rfl
    by_cases q : (i : Int) ≥ (l.length : Int)
    · refine Ev.succ (fun F => ?_) (step true)
      rw [attestorlaw05_CodeErasures.l0, if_pos g1, if_pos q, if_pos (Int.natCast_nonneg _), if_pos g2, Option.bind_some, Int.toNat_natCast]
    · refine Ev.succ (fun F => ?_) (step (!(rdOf false l (i : Int))))
      rw [attestorlaw05_CodeErasures.l0, if_pos g1, if_neg q, if_pos (Int.natCast_nonneg _), if_pos (by omega), if_pos g2, Option.bind_some, Int.toNat_natCast]
end dom
theorem CodeErasures (a0 a1 a2 : Int) (l3 : List Int) (l4 : List Bool) (w0 : (Lit.int .u8 a0).wf = true) (w1 : (Lit.int .u8 a1).wf = true) (w2 : (Lit.int .u64 a2).wf = true) (hy : l3.length * 8 ≤ 140737488351232) (wu : ∀ x ∈ l3, (Lit.int .u64 x).wf = true) : ∃ k, attestorlaw05_CodeErasures.f k a0 a1 a2 l3 l4 = some true := by
  obtain ⟨f, p, k, s, e, z, h5⟩ := s_domain0 w0 w1 w2
  have h32 : 2 ^ k ≤ 2 ^ 5 := Nat.pow_le_pow_right (by omega) h5
  have es := beq_iff_eq.1 (List.all_eq_true.1 shl5_tab k (List.mem_range.2 (by omega)))
  have o3 := s_own hy (2 ^ k)
  have u3 : UL (l3.take (2 ^ k)) := (UL.of_wf wu).take _
  have n3 : (l3.take (2 ^ k)).length ≤ 2 ^ k := by rw [List.length_take]; omega
  obtain ⟨K1, k1⟩ := Ev.get (s_Normal z.h.o (l := l3.take (2 ^ k)) (by omega) u3)
  have m3 := nrm_length_le p (l3.take (2 ^ k))
  have r3 := nrm_nrm (p : Int) (l3.take (2 ^ k))
  have uP := nrm_UL z.h.o (l3.take (2 ^ k))
  generalize l3.take (2 ^ k) = L3 at *
  generalize nrm p L3 = P at *
  obtain ⟨K2, k2⟩ := Ev.get (z.word (P := P) (by omega) uP)
  obtain ⟨K3, k3⟩ := Ev.get (er_l0 z h5 uP r3 (by omega) l4 (2 ^ k) 0 (List.replicate (2 ^ k) false) (by omega) (by simp))
  refine Ev.ex (F := fun K => attestorlaw05_CodeErasures.f K a0 a1 a2 l3 l4) (Ev.mk (K1 + K2 + K3) fun K hK => ?_)
  rw [attestorlaw05_CodeErasures.f, e, Option.bind_some]
  dsimp only
  rw [es, if_pos (by rw [wu64 (by omega) (by omega)]; omega), o3, Option.bind_some, k1 _ (by omega), Option.bind_some, k2 _ (by omega), Option.bind_some, if_pos (Int.natCast_nonneg _), Int.toNat_natCast, if_pos (by omega)]
  exact k3 K (by omega)
end Go.Proofs.YtedapdagagkajaaDoor.Pure

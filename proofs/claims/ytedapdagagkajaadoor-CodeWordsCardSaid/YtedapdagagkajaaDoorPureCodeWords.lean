/- IsWord and Fill return what the chapter specifies: for every input. -/
import Derived.Test.YtedapdagagkajaaDoorSpecs
import Derived.Test.YtedapdagagkajaaDoorQ17
namespace Go.Proofs.YtedapdagagkajaaDoor.Pure
open Go.RowKit Go.Proofs.YtedapdagagkajaaDoor.Q Go.Proofs.YtedapdagagkajaaDoor.Num Go.Proofs.YtedapdagagkajaaDoor.Pol Go.Proofs.YtedapdagagkajaaDoorW.PrintWords Go.Proofs.YtedapdagagkajaaDoorW.PrintLast Go.Proofs.YtedapdagagkajaaDoorW.PrintMore V

def gat (K : List Bool) (n : Nat) : Nat → Nat → List Nat → List Nat
  | 0, _, I => I
  | d + 1, i, I => if kb K i = true ∧ I.length < n then gat K n d (i + 1) (I ++ [i]) else gat K n d (i + 1) I
theorem gat_full {K : List Bool} {n : Nat} {I : List Nat} (h : ¬ I.length < n) : ∀ d i, gat K n d i I = I
  | 0, _ => rfl
  | d + 1, i => by rw [gat, if_neg (fun q => h q.2), gat_full h d]
theorem gat_inv {K : List Bool} {n : Nat} : ∀ (d i : Nat) (I : List Nat), Inv K n i I → Inv K n (i + d) (gat K n d i I)
  | 0, _, _, h => h
  | d + 1, i, I, h => by
    rw [gat]
    split
    · next c => have := gat_inv d (i + 1) _ (h.add c.1 c.2); rwa [show i + 1 + d = i + (d + 1) by omega] at this
    · next c => have := gat_inv d (i + 1) _ (h.skip c); rwa [show i + 1 + d = i + (d + 1) by omega] at this
section dom
variable {f : Int} {p k : Nat} {s : Int} (z : Dm f p k s) (hw : attestorref05_Valid.f f (k : Int) s = some true)
variable {v : List Int} {K : List Bool} {n : Nat} (hk : k ≤ 5) (hv : v.length = 2 ^ k) (hK : K.length = 2 ^ k) (uv : UL v)
include z hw hk hv hK uv
theorem words_l0 {r : List Int × Int} : ∀ (d i : Nat) (I : List Nat), i + d = 2 ^ k → I.length ≤ i →
    Ev (fun F => code_Fill.l0 F v K n (pts f p k s) ((gat K n d i I).map fun i => pnt f p k s i) ((gat K n d i I).map fun i => co v i) K ((2 ^ k : Nat) : Int) ((2 ^ k : Nat) : Int) f k s) r →
    Ev (fun F => code_Fill.l0 F v K n (pts f p k s) (I.map fun i => pnt f p k s i) (I.map fun i => co v i) K ((2 ^ k : Nat) : Int) i f k s) r := by
  have _ := z
  have _ := hw
  have _ := uv
  have h10 : 2 ^ k ≤ 2 ^ 5 := Nat.pow_le_pow_right (by omega) hk
  intro d
  induction d with
  | zero => intro i I hi _ h; obtain rfl : i = 2 ^ k := by omega
            exact h
  | succ d ih =>
    intro i I hi hI h
    have hii : i < 2 ^ k := by omega
    have h1 : (i : Int) < ((2 ^ k : Nat) : Int) := Int.ofNat_lt.2 hii
    have h2 : (i : Int) < (K.length : Int) := by rw [hK]; exact h1
    have h3 : (i : Int) < (v.length : Int) := by rw [hv]; exact h1
    have h4 : (i : Int) < ((pts f p k s).length : Int) := by rw [pts_length]; exact h1
    have hlm : (I.map fun i => pnt f p k s i).length = I.length := List.length_map ..
    have hlm2 : (I.map fun i => co v i).length = I.length := List.length_map ..
    by_cases c : kb K i = true
    · by_cases c2 : I.length < n
      · rw [gat, if_pos ⟨c, c2⟩] at h
        refine Ev.succ (fun F => ?_) (ih (i + 1) (I ++ [i]) (by omega) (by simp; omega) h)
        rw [code_Fill.l0, if_pos h1, if_pos (Int.natCast_nonneg _), if_pos h2, rdOf_kb, if_pos c, if_pos (by rw [hlm]; omega), if_pos h4, Option.bind_some, if_pos (by rw [hlm, List.length_singleton]; omega), if_pos h3, Option.bind_some, if_pos (by rw [hlm2, List.length_singleton]; omega), w64_succ (by omega), rd_nat, rd_nat, co_pts hii, List.map_append, List.map_append]
        rfl
      · rw [gat, if_neg (fun q => c2 q.2)] at h
        refine Ev.succ (fun F => ?_) (ih (i + 1) I (by omega) (by omega) h)
        rw [code_Fill.l0, if_pos h1, if_pos (Int.natCast_nonneg _), if_pos h2, rdOf_kb, if_pos c, if_neg (by rw [hlm]; omega), w64_succ (by omega)]
    · rw [gat, if_neg (fun q => c q.1)] at h
      refine Ev.succ (fun F => ?_) (ih (i + 1) I (by omega) (by omega) h)
      rw [code_Fill.l0, if_pos h1, if_pos (Int.natCast_nonneg _), if_pos h2, rdOf_kb, if_neg c, w64_succ (by omega)]
theorem wordsR_l0 {r : List Int × Int} : ∀ (d i : Nat) (I : List Nat), i + d = 2 ^ k → I.length ≤ i →
    (∀ i' : Nat, Ev (fun F => attestorref05_Fill.j3 F v K n ((gat K n d i I).map fun i => pnt f p k s i) ((gat K n d i I).map fun i => co v i) (i' : Int) false f k s) r) →
    Ev (fun F => attestorref05_Fill.l0 F v K n (I.map fun i => pnt f p k s i) (I.map fun i => co v i) i f k s) r := by
  have _ := uv
  have h10 : 2 ^ k ≤ 2 ^ 5 := Nat.pow_le_pow_right (by omega) hk
  intro d
  induction d with
  | zero =>
    intro i I hi _ h
    have nl : ¬ (i : Int) < (v.length : Int) := by rw [hv]; omega
    refine Ev.succ (fun F => ?_) (h i)
    rw [attestorref05_Fill.l0, if_neg nl]
    rfl
  | succ d ih =>
    intro i I hi hI h
    have hii : i < 2 ^ k := by omega
    have h1 : (i : Int) < ((2 ^ k : Nat) : Int) := Int.ofNat_lt.2 hii
    have h2 : (i : Int) < (K.length : Int) := by rw [hK]; exact h1
    have h3 : (i : Int) < (v.length : Int) := by rw [hv]; exact h1
    have hlm : (I.map fun i => pnt f p k s i).length = I.length := List.length_map ..
    have hlm2 : (I.map fun i => co v i).length = I.length := List.length_map ..
    by_cases c2 : I.length < n
    · have hd : decide (((I.map fun i => pnt f p k s i).length : Int) < (n : Int)) = true := decide_eq_true (by rw [hlm]; omega)
      by_cases c : kb K i = true
      · rw [gat, if_pos ⟨c, c2⟩] at h
        obtain ⟨K1, k1⟩ := Ev.get (ih (i + 1) (I ++ [i]) (by omega) (by simp; omega) h)
        obtain ⟨K2, k2⟩ := Ev.get (d_rPoint z hw hii)
        refine Ev.mk (K1 + K2 + 2) fun F hF => ?_
        obtain ⟨F, rfl⟩ : ∃ F', F = F' + 2 := ⟨F - 2, by omega⟩
        have kk := k1 F (by omega)
        rw [List.map_append, List.map_append] at kk
        rw [attestorref05_Fill.l0, if_pos h3, hd, attestorref05_Fill.j3, if_pos rfl, if_pos (Int.natCast_nonneg _), if_pos h2, rdOf_kb, if_pos c, k2 F (by omega), Option.bind_some, if_pos (by rw [hlm]; omega), if_pos h3, if_pos (by rw [hlm2]; omega), rd_nat, w64_succ (by omega)]
        exact kk
      · rw [gat, if_neg (fun q => c q.1)] at h
        obtain ⟨K1, k1⟩ := Ev.get (ih (i + 1) I (by omega) (by omega) h)
        refine Ev.mk (K1 + 2) fun F hF => ?_
        obtain ⟨F, rfl⟩ : ∃ F', F = F' + 2 := ⟨F - 2, by omega⟩
        rw [attestorref05_Fill.l0, if_pos h3, hd, attestorref05_Fill.j3, if_pos rfl, if_pos (Int.natCast_nonneg _), if_pos h2, rdOf_kb, if_neg c, w64_succ (by omega)]
        exact k1 F (by omega)
    · have hd : decide (((I.map fun i => pnt f p k s i).length : Int) < (n : Int)) = false := decide_eq_false (by rw [hlm]; omega)
      rw [gat_full c2] at h
      refine Ev.succ (fun F => ?_) (h i)
      rw [attestorref05_Fill.l0, if_pos h3, hd]
theorem words_l1 {P : List Int} (lP : P.length ≤ 2 ^ k) (uP : UL P) : ∀ (d i : Nat), i + d = 2 ^ k → ∃ r : List Int × Int, Ev (fun F => code_Fill.l1 F v (wop f p k s P) K ((2 ^ k : Nat) : Int) i f k s) r ∧ Ev (fun F => attestorref05_Fill.l1 F v K P ((wop f p k s P).take i) i f k s) r ∧ r.1.length ≤ 64 := by
  have h10 : 2 ^ k ≤ 2 ^ 5 := Nat.pow_le_pow_right (by omega) hk
  intro d
  induction d with
  | zero =>
    intro i hi
    obtain rfl : i = 2 ^ k := by omega
    refine ⟨(wop f p k s P, 0), Ev.mks 0 fun F _ => ?_, Ev.mks 0 fun F _ => ?_, by rw [wop_length]; omega⟩
    · rw [code_Fill.l1, if_neg (Int.lt_irrefl _)]
    · rw [attestorref05_Fill.l1, if_neg (by rw [hv]; omega), List.take_of_length_le (by rw [wop_length]; omega)]
  | succ d ih =>
    intro i hi
    have hii : i < 2 ^ k := by omega
    have h1 : (i : Int) < ((2 ^ k : Nat) : Int) := Int.ofNat_lt.2 hii
    have h2 : (i : Int) < (K.length : Int) := by rw [hK]; exact h1
    have h3 : (i : Int) < (v.length : Int) := by rw [hv]; exact h1
    have h4 : (i : Int) < ((wop f p k s P).length : Int) := by rw [wop_length]; exact h1
    have hlt : ((wop f p k s P).take i).length < 17592186044416 := by rw [List.length_take, wop_length]; omega
    have et : (wop f p k s P).take i ++ [ev P (pnt f p k s i) % p] = (wop f p k s P).take (i + 1) := by rw [← co_wop hii]; exact take_co (by rw [wop_length]; exact hii)
    obtain ⟨K1, k1⟩ := Ev.get (d_rPoint z hw hii)
    obtain ⟨K2, k2⟩ := Ev.get (r_Eval z.h.o (l := P) (by omega) uP (x := pnt f p k s i) (z.pnt_nn i))
    obtain ⟨r, e1, e2, e3⟩ := ih (i + 1) (by omega)
    obtain ⟨K3, k3⟩ := Ev.get e2
    by_cases c : kb K i = true
    · by_cases e : ev P (pnt f p k s i) % p = co v i % p
      · refine ⟨r, Ev.succ (fun F => ?_) e1, Ev.mks (K1 + K2 + K3) fun F hF => ?_, e3⟩
        · rw [code_Fill.l1, if_pos h1, if_pos (Int.natCast_nonneg _), if_pos h2, rdOf_kb, if_pos c, if_pos h4, if_pos h3, rd_nat, rd_nat, s_Reduce z.h (U.co uv i).1, Option.bind_some, co_wop hii, if_pos e, w64_succ (by omega)]
        · rw [attestorref05_Fill.l1, if_pos h3, k1 F (by omega), Option.bind_some, k2 F (by omega), Option.bind_some, if_pos (Int.natCast_nonneg _), if_pos h2, rdOf_kb, if_pos c, rd_nat, r_Reduce z.h (U.co uv i).1, Option.bind_some, if_pos e, if_pos hlt, w64_succ (by omega), et]
          exact k3 F (by omega)
      · refine ⟨([], 7), Ev.mks 0 fun F _ => ?_, Ev.mks (K1 + K2) fun F hF => ?_, by simp⟩
        · rw [code_Fill.l1, if_pos h1, if_pos (Int.natCast_nonneg _), if_pos h2, rdOf_kb, if_pos c, if_pos h4, if_pos h3, rd_nat, rd_nat, s_Reduce z.h (U.co uv i).1, Option.bind_some, co_wop hii, if_neg e]
        · rw [attestorref05_Fill.l1, if_pos h3, k1 F (by omega), Option.bind_some, k2 F (by omega), Option.bind_some, if_pos (Int.natCast_nonneg _), if_pos h2, rdOf_kb, if_pos c, rd_nat, r_Reduce z.h (U.co uv i).1, Option.bind_some, if_neg e]
    · refine ⟨r, Ev.succ (fun F => ?_) e1, Ev.mks (K1 + K2 + K3) fun F hF => ?_, e3⟩
      · rw [code_Fill.l1, if_pos h1, if_pos (Int.natCast_nonneg _), if_pos h2, rdOf_kb, if_neg c, w64_succ (by omega)]
      · rw [attestorref05_Fill.l1, if_pos h3, k1 F (by omega), Option.bind_some, k2 F (by omega), Option.bind_some, if_pos (Int.natCast_nonneg _), if_pos h2, rdOf_kb, if_neg c, if_pos hlt, w64_succ (by omega), et]
        exact k3 F (by omega)
theorem words_fill (hn : n ≤ 2 ^ k) : ∃ r : List Int × Int, Ev (fun F => code_Fill.l0 F v K n (pts f p k s) [] [] K ((2 ^ k : Nat) : Int) 0 f k s) r ∧ Ev (fun F => attestorref05_Fill.l0 F v K n [] [] 0 f k s) r ∧ r.1.length ≤ 64 := by
  have h10 : 2 ^ k ≤ 2 ^ 5 := Nat.pow_le_pow_right (by omega) hk
  have hG : Inv K n (2 ^ k) (gat K n (2 ^ k) 0 []) := by have := gat_inv (2 ^ k) 0 [] (Inv.nil K n); rwa [Nat.zero_add] at this
  have A : ∀ {r}, Ev (fun F => code_Fill.l0 F v K n (pts f p k s) ((gat K n (2 ^ k) 0 []).map fun i => pnt f p k s i) ((gat K n (2 ^ k) 0 []).map fun i => co v i) K ((2 ^ k : Nat) : Int) ((2 ^ k : Nat) : Int) f k s) r → Ev (fun F => code_Fill.l0 F v K n (pts f p k s) [] [] K ((2 ^ k : Nat) : Int) 0 f k s) r := fun {r} h => words_l0 z hw hk hv hK uv (2 ^ k) 0 [] (by omega) (Nat.le_refl _) h
  have B : ∀ {r}, (∀ i' : Nat, Ev (fun F => attestorref05_Fill.j3 F v K n ((gat K n (2 ^ k) 0 []).map fun i => pnt f p k s i) ((gat K n (2 ^ k) 0 []).map fun i => co v i) (i' : Int) false f k s) r) → Ev (fun F => attestorref05_Fill.l0 F v K n [] [] 0 f k s) r := fun {r} h => wordsR_l0 z hw hk hv hK uv (2 ^ k) 0 [] (by omega) (Nat.le_refl _) h
  generalize gat K n (2 ^ k) 0 [] = G at *
  have lx : (G.map fun i => pnt f p k s i).length = G.length := List.length_map ..
  have ly : (G.map fun i => co v i).length = G.length := List.length_map ..
  by_cases c : G.length < n
  · refine ⟨([], 5), A (Ev.mks 0 fun F _ => ?_), B (fun i' => Ev.mks 0 fun F _ => ?_), by simp⟩
    · rw [code_Fill.l0, if_neg (Int.lt_irrefl _), if_pos (by rw [lx]; omega)]
    · rw [attestorref05_Fill.j3, if_neg (by decide), if_pos (by rw [lx]; omega)]
  · have lG : G.length = n := by have := hG.len; omega
    have hA := z.apart_map G hG.lt (fun i hi => (hG.mem i hi).1)
    have ux : UL (G.map fun i => pnt f p k s i) := fun x hx => by
      obtain ⟨i, _, rfl⟩ := List.mem_map.1 hx
      exact z.h.U _
    have uy : UL (G.map fun i => co v i) := fun x hx => by
      obtain ⟨i, _, rfl⟩ := List.mem_map.1 hx
      exact U.co uv i
    obtain ⟨R, e1, hR⟩ := s_Through z.h ux uy (by rw [lx, ly]) (by omega) hA
    obtain ⟨R', e2, hR'⟩ := r_Through z.h ux uy (by rw [lx, ly]) (by omega) hA
    rw [← interp_same z.h hA hR hR'] at e2
    have lR : (nrm p R).length ≤ 2 ^ k := by have := nrm_deg z.h.pos hR.1; omega
    have uR := nrm_UL z.h.o R
    have nR := nrm_nrm (p : Int) R
    generalize nrm p R = P at *
    obtain ⟨K1, k1⟩ := Ev.get e1
    obtain ⟨K2, k2⟩ := Ev.get e2
    obtain ⟨K3, k3⟩ := Ev.get (s_Values z.h (by omega) z.hg (s := s) (by have := z.s0; omega) z.unit (l := P) (by omega) uR (by rw [nR]; omega))
    rw [wop_vals z] at k3
    obtain ⟨r, g1, g2, g3⟩ := words_l1 z hw hk hv hK uv lR uR (2 ^ k) 0 (by omega)
    obtain ⟨K4, k4⟩ := Ev.get g1
    obtain ⟨K5, k5⟩ := Ev.get g2
    refine ⟨r, A (Ev.mks (K1 + K3 + K4) fun F hF => ?_), B (fun i' => Ev.mks (K2 + K5) fun F hF => ?_), g3⟩
    · rw [code_Fill.l0, if_neg (Int.lt_irrefl _), if_neg (by rw [lx]; omega), k1 F (by omega), Option.bind_some]
      dsimp only
      rw [if_pos rfl, k3 F (by omega), Option.bind_some]
      dsimp only
      rw [if_pos rfl, hK]
      exact k4 F (by omega)
    · rw [attestorref05_Fill.j3, if_neg (by decide), if_neg (by rw [lx]; omega), k2 F (by omega), Option.bind_some]
      exact k5 F (by omega)
end dom
section both
variable {f : Int} {p k : Nat} {s : Int} (z : Dm f p k s) (hw : attestorref05_Valid.f f (k : Int) s = some true) (hk : k ≤ 5)
include z hw hk
theorem z_Fill {v : List Int} {K : List Bool} (uv : UL v) (n : Int) : ∃ r : List Int × Int, Ev (fun F => code_Fill.f F f k s v K n) r ∧ Ev (fun F => attestorref05_Fill.f F f k s v K n) r ∧ r.1.length ≤ 64 := by
  have h10 : 2 ^ k ≤ 2 ^ 5 := Nat.pow_le_pow_right (by omega) hk
  have hS := d_rSize z hw
  by_cases hv : v.length = 2 ^ k
  · have e8 : ((v.length : Int) == ((2 ^ k : Nat) : Int)) = true := by rw [hv]; exact beq_self_eq_true _
    have e7 : (v.length : Int) = ((2 ^ k : Nat) : Int) := by rw [hv]
    by_cases hK : K.length = 2 ^ k
    · have e9 : ((K.length : Int) != (v.length : Int)) = false := by rw [hK, hv]; exact bne_self_eq_false _
      have e6 : ((K.length : Int) != ((2 ^ k : Nat) : Int)) = false := by rw [hK]; exact bne_self_eq_false _
      by_cases c1 : n < 0
      · refine ⟨([], 2), Ev.mk 2 fun F hF => ?_, Ev.mk 2 fun F hF => ?_, by simp⟩
        · obtain ⟨F, rfl⟩ : ∃ F', F = F' + 2 := ⟨F - 2, by omega⟩
          rw [code_Fill.f, z.isw, Option.bind_some, if_pos e8, e9, code_Fill.j0, if_neg (by decide), if_pos c1, code_Fill.j1, if_pos rfl]
        · obtain ⟨F, rfl⟩ : ∃ F', F = F' + 2 := ⟨F - 2, by omega⟩
          rw [attestorref05_Fill.f, hw, Option.bind_some, if_pos rfl, hS, Option.bind_some, if_pos e7, Option.bind_some, e6, attestorref05_Fill.j0, if_neg (by decide), if_pos c1, attestorref05_Fill.j1, if_pos rfl]
      · obtain ⟨m, rfl⟩ : ∃ m : Nat, n = m := ⟨n.toNat, by omega⟩
        by_cases c2 : m ≤ 2 ^ k
        · have g1 : decide ((m : Int) > (v.length : Int)) = false := decide_eq_false (by rw [hv]; omega)
          have g2 : decide ((m : Int) > ((2 ^ k : Nat) : Int)) = false := decide_eq_false (by omega)
          obtain ⟨r, a1, a2, a3⟩ := words_fill z hw hk hv hK uv (n := m) c2
          obtain ⟨K1, k1⟩ := Ev.get z.Points
          obtain ⟨K2, k2⟩ := Ev.get a1
          obtain ⟨K3, k3⟩ := Ev.get a2
          refine ⟨r, Ev.mk (K1 + K2 + 2) fun F hF => ?_, Ev.mk (K3 + 2) fun F hF => ?_, a3⟩
          · obtain ⟨F, rfl⟩ : ∃ F', F = F' + 2 := ⟨F - 2, by omega⟩
            rw [code_Fill.f, z.isw, Option.bind_some, if_pos e8, e9, code_Fill.j0, if_neg (by decide), if_neg c1, g1, code_Fill.j1, if_neg (by decide), if_neg (by omega), k1 F (by omega), Option.bind_some, hK]
            exact k2 F (by omega)
          · obtain ⟨F, rfl⟩ : ∃ F', F = F' + 2 := ⟨F - 2, by omega⟩
            rw [attestorref05_Fill.f, hw, Option.bind_some, if_pos rfl, hS, Option.bind_some, if_pos e7, Option.bind_some, e6, attestorref05_Fill.j0, if_neg (by decide), if_neg c1, hS, Option.bind_some, g2, attestorref05_Fill.j1, if_neg (by decide), if_neg (by omega)]
            exact k3 F (by omega)
        · have g1 : decide ((m : Int) > (v.length : Int)) = true := decide_eq_true (by rw [hv]; omega)
          have g2 : decide ((m : Int) > ((2 ^ k : Nat) : Int)) = true := decide_eq_true (by omega)
          refine ⟨([], 2), Ev.mk 2 fun F hF => ?_, Ev.mk 2 fun F hF => ?_, by simp⟩
          · obtain ⟨F, rfl⟩ : ∃ F', F = F' + 2 := ⟨F - 2, by omega⟩
            rw [code_Fill.f, z.isw, Option.bind_some, if_pos e8, e9, code_Fill.j0, if_neg (by decide), if_neg c1, g1, code_Fill.j1, if_pos rfl]
          · obtain ⟨F, rfl⟩ : ∃ F', F = F' + 2 := ⟨F - 2, by omega⟩
            rw [attestorref05_Fill.f, hw, Option.bind_some, if_pos rfl, hS, Option.bind_some, if_pos e7, Option.bind_some, e6, attestorref05_Fill.j0, if_neg (by decide), if_neg c1, hS, Option.bind_some, g2, attestorref05_Fill.j1, if_pos rfl]
    · have e9 : ((K.length : Int) != (v.length : Int)) = true := bne_iff_ne.2 (fun q => hK (by rw [hv] at q; exact Int.ofNat_inj.1 q))
      have e6 : ((K.length : Int) != ((2 ^ k : Nat) : Int)) = true := bne_iff_ne.2 (fun q => hK (Int.ofNat_inj.1 q))
      refine ⟨([], 1), Ev.mks 0 fun F _ => ?_, Ev.mks 0 fun F _ => ?_, by simp⟩
      · rw [code_Fill.f, z.isw, Option.bind_some, if_pos e8, e9, code_Fill.j0, if_pos rfl]
      · rw [attestorref05_Fill.f, hw, Option.bind_some, if_pos rfl, hS, Option.bind_some, if_pos e7, Option.bind_some, e6, attestorref05_Fill.j0, if_pos rfl]
  · have e8 : ¬ ((v.length : Int) == ((2 ^ k : Nat) : Int)) = true := fun q => hv (Int.ofNat_inj.1 (beq_iff_eq.1 q))
    have e7 : ¬ (v.length : Int) = ((2 ^ k : Nat) : Int) := fun q => hv (Int.ofNat_inj.1 q)
    refine ⟨([], 1), Ev.mks 0 fun F _ => ?_, Ev.mks 0 fun F _ => ?_, by simp⟩
    · rw [code_Fill.f, z.isw, Option.bind_some, if_neg e8, code_Fill.j0, if_pos rfl]
    · rw [attestorref05_Fill.f, hw, Option.bind_some, if_pos rfl, hS, Option.bind_some, if_neg e7, attestorref05_Fill.j0, if_pos rfl]
theorem z_IsWord {v : List Int} (uv : UL v) (n : Int) : ∃ b : Bool, Ev (fun F => code_IsWord.f F f k s v n) b ∧ Ev (fun F => attestorref05_IsWord.f F f k s v n) b := by
  have h10 : 2 ^ k ≤ 2 ^ 5 := Nat.pow_le_pow_right (by omega) hk
  have hS := d_rSize z hw
  by_cases hv : v.length = 2 ^ k
  · have e8 : ((v.length : Int) == ((2 ^ k : Nat) : Int)) = true := by rw [hv]; exact beq_self_eq_true _
    have e7 : (v.length : Int) = ((2 ^ k : Nat) : Int) := by rw [hv]
    by_cases c1 : n < 0
    · refine ⟨false, Ev.mks 0 fun F _ => ?_, Ev.mks 0 fun F _ => ?_⟩
      · rw [code_IsWord.f, z.isw, Option.bind_some, if_pos e8, if_pos c1, code_IsWord.j0, if_pos rfl]
      · rw [attestorref05_IsWord.f, hw, Option.bind_some, if_pos rfl, hS, Option.bind_some, if_pos e7, if_pos c1, attestorref05_IsWord.j0, if_pos rfl]
    · by_cases c2 : n > ((2 ^ k : Nat) : Int)
      · have c3 : n > (v.length : Int) := by rw [hv]; exact c2
        refine ⟨false, Ev.mks 0 fun F _ => ?_, Ev.mks 0 fun F _ => ?_⟩
        · rw [code_IsWord.f, z.isw, Option.bind_some, if_pos e8, if_neg c1, decide_eq_true c3, code_IsWord.j0, if_pos rfl]
        · rw [attestorref05_IsWord.f, hw, Option.bind_some, if_pos rfl, hS, Option.bind_some, if_pos e7, if_neg c1, Option.bind_some, decide_eq_true c2, attestorref05_IsWord.j0, if_pos rfl]
      · have c3 : ¬ n > (v.length : Int) := by rw [hv]; exact c2
        have lC := cofs_length p (inv p (wr f p k)) (inv p ((2 ^ k : Nat) : Int)) (inv p s) v (2 ^ k)
        have uC := cofs_UL z.h (inv p (wr f p k)) (inv p ((2 ^ k : Nat) : Int)) (inv p s) v (2 ^ k)
        obtain ⟨K1, k1⟩ := Ev.get (s_Coefs z.h (by omega) z.hg (s := s) (by have := z.s0; omega) z.unit hv uv)
        obtain ⟨K2, k2⟩ := Ev.get (r_Coefs z.h (by omega) z.hg (s := s) (by have := z.s0; omega) z.unit hv uv)
        generalize cofs p (inv p (wr f p k)) (inv p ((2 ^ k : Nat) : Int)) (inv p s) v (2 ^ k) = C at *
        obtain ⟨K3, k3⟩ := Ev.get (s_Degree z.h.o (l := C) (by omega) uC)
        obtain ⟨K4, k4⟩ := Ev.get (r_Normal z.h.o (l := C) (by omega) uC)
        refine ⟨decide (((nrm p C).length : Int) ≤ n), Ev.mks (K1 + K3) fun F hF => ?_, Ev.mks (K2 + K4) fun F hF => ?_⟩
        · rw [code_IsWord.f, z.isw, Option.bind_some, if_pos e8, if_neg c1, decide_eq_false c3, code_IsWord.j0, if_neg (by decide), k1 F (by omega), Option.bind_some]
          dsimp only
          rw [if_pos rfl, k3 F (by omega), Option.bind_some]
          refine congrArg some ?_
          rw [Bool.eq_iff_iff, decide_eq_true_iff, decide_eq_true_iff]
          omega
        · rw [attestorref05_IsWord.f, hw, Option.bind_some, if_pos rfl, hS, Option.bind_some, if_pos e7, if_neg c1, Option.bind_some, decide_eq_false c2, attestorref05_IsWord.j0, if_neg (by decide), k2 F (by omega), Option.bind_some]
          dsimp only
          rw [k4 F (by omega), Option.bind_some]
  · have e8 : ¬ ((v.length : Int) == ((2 ^ k : Nat) : Int)) = true := fun q => hv (Int.ofNat_inj.1 (beq_iff_eq.1 q))
    have e7 : ¬ (v.length : Int) = ((2 ^ k : Nat) : Int) := fun q => hv (Int.ofNat_inj.1 q)
    refine ⟨false, Ev.mks 0 fun F _ => ?_, Ev.mks 0 fun F _ => ?_⟩
    · rw [code_IsWord.f, z.isw, Option.bind_some, if_neg e8, code_IsWord.j0, if_pos rfl]
    · rw [attestorref05_IsWord.f, hw, Option.bind_some, if_pos rfl, hS, Option.bind_some, if_neg e7, attestorref05_IsWord.j0, if_pos rfl]
end both
section none
variable {f b s : Int} (h1 : code_Valid.f f b s = some false) (h2 : attestorref05_Valid.f f b s = some false)
include h1 h2
theorem n_isw (v : List Int) : code_isWord.f f b s v = some false := by
  have _ := h2
  rw [code_isWord.f, h1, Option.bind_some, if_neg (by decide)]
theorem n_Fill (v : List Int) (K : List Bool) (n : Int) : Ev (fun F => code_Fill.f F f b s v K n) ([], 1) ∧ Ev (fun F => attestorref05_Fill.f F f b s v K n) ([], 1) :=
  ⟨Ev.mks 0 fun F _ => by rw [code_Fill.f, n_isw h1 h2, Option.bind_some, if_neg (by decide), code_Fill.j0, if_pos rfl], Ev.mks 0 fun F _ => by rw [attestorref05_Fill.f, h2, Option.bind_some, if_neg (by decide), attestorref05_Fill.j0, if_pos rfl]⟩
theorem n_IsWord (v : List Int) (n : Int) : Ev (fun F => code_IsWord.f F f b s v n) false ∧ Ev (fun F => attestorref05_IsWord.f F f b s v n) false :=
  ⟨Ev.mks 0 fun F _ => by rw [code_IsWord.f, n_isw h1 h2, Option.bind_some, if_neg (by decide), code_IsWord.j0, if_pos rfl], Ev.mks 0 fun F _ => by rw [attestorref05_IsWord.f, h2, Option.bind_some, if_neg (by decide), attestorref05_IsWord.j0, if_pos rfl]⟩
end none
theorem CodeWords (f b s : Int) (l1 : List Int) (l2 : List Bool) (n : Int) (hy : l1.length * 8 ≤ 140737488351232) (wu : ∀ x ∈ l1, (Lit.int .u64 x).wf = true) : ∃ k, attestorlaw05_CodeWords.f k f b s l1 l2 n = some true := by
  obtain ⟨t, t1, t2⟩ := both_small f b s 5 (by omega)
  obtain ⟨v, hv⟩ : ∃ v, v = l1.take 40 := ⟨_, rfl⟩
  have uv : UL v := hv ▸ (UL.of_wf wu).take 40
  have nv : v.length ≤ 40 := by rw [hv, List.length_take]; omega
  have o1 := s_own hy 40
  have o2 := s_own (l := v) (by omega) 40
  rw [← hv] at o1
  rw [List.take_of_length_le nv] at o2
  have m1 : 0 ≤ mn (l2.length : Int) 40 := by unfold mn; split <;> omega
  have m2 : mn (l2.length : Int) 40 ≤ (l2.length : Int) := by unfold mn; split <;> omega
  have m3 : ([] : List Bool).length + (l2.take (mn (l2.length : Int) 40).toNat).length < 140737488355328 := by
    rw [List.length_nil, List.length_take]
    have : (mn (l2.length : Int) 40).toNat ≤ 40 := by unfold mn; split <;> omega
    omega
  have o1 : attestorlaw05_own.f l1 40 = some v := o1
  have o2 : attestorlaw05_own.f v 40 = some v := o2
  obtain ⟨K, hKd⟩ : ∃ K, K = ([] : List Bool) ++ l2.take (mn (l2.length : Int) 40).toNat := ⟨_, rfl⟩
  obtain ⟨r, r1, r2, r3⟩ : ∃ r : List Int × Int, Ev (fun F => code_Fill.f F t.1 t.2.1 t.2.2 v K n) r ∧ Ev (fun F => attestorref05_Fill.f F t.1 t.2.1 t.2.2 v K n) r ∧ r.1.length ≤ 64 := by
    rcases t2 with ⟨p, k, rfl, hk, z, hw⟩ | ⟨rfl, h1, h2⟩
    · exact z_Fill z hw hk uv n
    · have := n_Fill h1 h2 v K n
      exact ⟨_, this.1, this.2, by simp⟩
  obtain ⟨q, q1, q2⟩ : ∃ q : Bool, Ev (fun F => code_IsWord.f F t.1 t.2.1 t.2.2 v n) q ∧ Ev (fun F => attestorref05_IsWord.f F t.1 t.2.1 t.2.2 v n) q := by
    rcases t2 with ⟨p, k, rfl, hk, z, hw⟩ | ⟨rfl, h1, h2⟩
    · exact z_IsWord z hw hk uv n
    · exact ⟨_, n_IsWord h1 h2 v n⟩
  obtain ⟨K1, k1⟩ := Ev.get r1
  obtain ⟨K2, k2⟩ := Ev.get r2
  obtain ⟨K3, k3⟩ := Ev.get q1
  obtain ⟨K4, k4⟩ := Ev.get q2
  obtain ⟨K5, k5⟩ := Ev.get (r_Same (l := r.1) (by omega))
  obtain ⟨K6, k6⟩ := Ev.get (r_Same (l := v) (by omega))
  obtain ⟨K7, k7⟩ := Ev.get s_works
  refine Ev.ex (F := fun F => attestorlaw05_CodeWords.f F f b s l1 l2 n) (Ev.mk (K1 + K2 + K3 + K4 + K5 + K6 + K7) fun F hF => ?_)
  rw [attestorlaw05_CodeWords.f, show (5 : Int) = ((5 : Nat) : Int) from rfl, t1, Option.bind_some]
  rw [o1, Option.bind_some, o2, Option.bind_some, if_pos m1, if_pos m2, if_pos m3, Option.bind_some, ← hKd, k1 F (by omega), Option.bind_some, k2 F (by omega), Option.bind_some, k3 F (by omega), Option.bind_some, k4 F (by omega), Option.bind_some, if_pos (by simp), if_pos rfl, k5 F (by omega), Option.bind_some, if_pos rfl, k6 F (by omega), Option.bind_some, if_pos rfl, k7 F (by omega), Option.bind_some]
end Go.Proofs.YtedapdagagkajaaDoor.Pure

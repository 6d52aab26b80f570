/- The plain law of FoldWords. -/
import Derived.Test.YthinfmfjpaikiaaDoorSpecs
import Derived.Test.YthinfmfjpaikiaaDoorQ10
import Derived.Test.YthinfmfjpaikiaaDoorQ11
namespace Go.Proofs.YthinfmfjpaikiaaDoor.Pure
open Go.RowKit Go.Proofs.YthinfmfjpaikiaaDoor.Q Go.Proofs.YthinfmfjpaikiaaDoor.Num Go.Proofs.YthinfmfjpaikiaaDoor.Pol Go.Proofs.YthinfmfjpaikiaaDoorW.PrintWords Go.Proofs.YthinfmfjpaikiaaDoorW.PrintLast Go.Proofs.YthinfmfjpaikiaaDoorW.PrintMore

def Lens (L M : List (List Int)) : Prop := L.length = M.length ∧ ∀ t, (lc L t).length = (lc M t).length
theorem fw_l1 {v : List Int} {M : List (List Int)} (hM : ∀ t, (lc M t).length ≤ 1000000) (hl : M.length ≤ 1000) {t : Nat} (ht : t < M.length) (hK : ∀ L, Lens L M → Ev (fun K => attestorlaw09_FoldWords.l0 K v v L ((t + 1 : Nat) : Int)) true) : ∀ (d j : Nat) (L : List (List Int)), Lens L M → j + d = (lc M t).length →
    Ev (fun K => attestorlaw09_FoldWords.l1 K v v L t j) true := by
  intro d
  induction d with
  | zero =>
    intro j L hL hj
    obtain ⟨K1, k1⟩ := Ev.get (hK L hL)
    have h1 := hL.2 t
    refine Ev.mks K1 fun K h => ?_
    rw [attestorlaw09_FoldWords.l1, if_pos (Int.natCast_nonneg _), if_pos (by have := hL.1; omega), rd_L1_nat, if_neg (by omega), w64_succ (by omega)]
    exact k1 K h
  | succ d ih =>
    intro j L hL hj
    have h1 := hL.2 t
    have h2 := hM t
    have h3 : t < L.length := by rw [hL.1]; exact ht
    obtain ⟨K1, k1⟩ := Ev.get (ih (j + 1) (L.set t ((lc L t).set j 5)) ⟨by rw [List.length_set, hL.1], fun u => by
      rw [lc_set h3]
      split
      · rename_i e; subst e; rw [List.length_set, h1]
      · exact hL.2 u⟩ (by omega))
    refine Ev.mks K1 fun K h => ?_
    rw [attestorlaw09_FoldWords.l1, if_pos (Int.natCast_nonneg _), if_pos (by omega), rd_L1_nat, if_pos (by omega), if_pos (Int.natCast_nonneg _), w64_succ (by omega), Int.toNat_natCast, Int.toNat_natCast]
    exact k1 K h
theorem fw_l0 {v : List Int} (hv : v.length ≤ 1000000) {M : List (List Int)} (hM : ∀ t, (lc M t).length ≤ 1000000) (hl : M.length ≤ 1000) : ∀ (d t : Nat) (L : List (List Int)), Lens L M → t + d = M.length →
    Ev (fun K => attestorlaw09_FoldWords.l0 K v v L t) true := by
  intro d
  induction d with
  | zero =>
    intro t L hL ht
    obtain ⟨K1, k1⟩ := Ev.get (r_Same hv)
    obtain ⟨K2, k2⟩ := Ev.get s_works
    refine Ev.mks (K1 + K2) fun K h => ?_
    rw [attestorlaw09_FoldWords.l0, if_neg (by have := hL.1; omega), k1 K (by omega), Option.bind_some, if_pos rfl, k2 K (by omega), Option.bind_some]
  | succ d ih =>
    intro t L hL ht
    have hlt : t < M.length := by omega
    obtain ⟨K1, k1⟩ := Ev.get (fw_l1 (v := v) hM hl hlt (fun L' hL' => ih (t + 1) L' hL' (by omega)) (lc M t).length 0 L hL (by omega))
    refine Ev.mks (K1 + 1) fun K h => ?_
    obtain ⟨K, rfl⟩ : ∃ K', K = K' + 1 := ⟨K - 1, by omega⟩
    rw [attestorlaw09_FoldWords.l0, if_pos (by have := hL.1; omega), attestorlaw09_FoldWords.j3]
    exact k1 K (by omega)
theorem small_any (f b s : Int) : ∃ t, attestorlaw09_small.f f b s = some t := by
  rcases V.dm_or f b s with ⟨p, k, rfl, z, hv⟩ | ⟨h1, h2⟩
  · by_cases c : (k : Int) > 6
    · exact ⟨_, by rw [attestorlaw09_small.f, hv, Option.bind_some, if_pos rfl, if_pos c]⟩
    · exact ⟨_, by rw [attestorlaw09_small.f, hv, Option.bind_some, if_pos rfl, if_neg c]⟩
  · exact ⟨_, by rw [attestorlaw09_small.f, h2, Option.bind_some, if_neg (by decide)]⟩
theorem FoldWords (f b s : Int) (l1 l2 : List Int) (i : Int) (hy : l1.length * 8 ≤ 140737488351232) (hy2 : l2.length * 8 ≤ 140737488351232) (_ : (Lit.int .i64 i).wf = true) (wu1 : ∀ x ∈ l1, (Lit.int .u64 x).wf = true) (wu2 : ∀ x ∈ l2, (Lit.int .u64 x).wf = true) :
    ∃ k, attestorlaw09_FoldWords.f k f b s l1 l2 i = some true := by
  obtain ⟨t, t1⟩ := small_any f b s
  obtain ⟨v, hv⟩ : ∃ v, v = l1.take 70 := ⟨_, rfl⟩
  obtain ⟨zs, hz⟩ : ∃ zs, zs = l2.take 4 := ⟨_, rfl⟩
  have uv : UL v := hv ▸ (UL.of_wf wu1).take 70
  have uz : UL zs := hz ▸ (UL.of_wf wu2).take 4
  have nv : v.length ≤ 70 := by rw [hv, List.length_take]; omega
  have o1 := s_own hy 70
  have o2 := s_own hy2 4
  have o3 := s_own (l := v) (by omega) 70
  rw [← hv] at o1
  rw [← hz] at o2
  rw [List.take_of_length_le nv] at o3
  have o1 : attestorlaw09_own.f l1 70 = some v := o1
  have o2 : attestorlaw09_own.f l2 4 = some zs := o2
  have o3 : attestorlaw09_own.f v 70 = some v := o3
  have main : ∀ c, 0 ≤ c → Ev (fun K => attestorlaw09_FoldWords.j0 K v zs i v c t.1 t.2.1 t.2.2) true := by
    intro c hc
    obtain ⟨r1, n1, w1, w2⟩ := both_Word t.1 t.2.1 t.2.2 hc uv (by omega)
    obtain ⟨r2, n2, n3, w3, w4⟩ := both_Words t.1 t.2.1 t.2.2 uv uz
    obtain ⟨r3, n4, w5, w6⟩ := both_Leaf t.1 t.2.1 t.2.2 i uv (by omega)
    obtain ⟨K1, k1⟩ := Ev.get w1
    obtain ⟨K2, k2⟩ := Ev.get w2
    obtain ⟨K3, k3⟩ := Ev.get w3
    obtain ⟨K4, k4⟩ := Ev.get w4
    obtain ⟨K5, k5⟩ := Ev.get w5
    obtain ⟨K6, k6⟩ := Ev.get w6
    obtain ⟨K7, k7⟩ := Ev.get (r_Same n1)
    obtain ⟨K8, k8⟩ := Ev.get (r_SameLists n3 (by omega))
    obtain ⟨K9, k9⟩ := Ev.get (fw_l0 (v := v) (by omega) n3 n2 r2.1.length 0 r2.1 ⟨rfl, fun _ => rfl⟩ (by omega))
    refine Ev.mks (K1 + K2 + K3 + K4 + K5 + K6 + K7 + K8 + K9 + 1) fun K hK => ?_
    obtain ⟨K, rfl⟩ : ∃ K', K = K' + 1 := ⟨K - 1, by omega⟩
    rw [attestorlaw09_FoldWords.j0, k1 (K + 1) (by omega), Option.bind_some, k2 (K + 1) (by omega), Option.bind_some, k3 (K + 1) (by omega), Option.bind_some, k4 (K + 1) (by omega), Option.bind_some, k5 (K + 1) (by omega), Option.bind_some, k6 (K + 1) (by omega), Option.bind_some, if_pos (by simp), if_pos rfl, k7 (K + 1) (by omega), Option.bind_some, if_pos rfl, if_pos rfl, k8 (K + 1) (by omega), Option.bind_some, if_pos rfl, attestorlaw09_FoldWords.j1]
    exact k9 K (by omega)
  have hu : ∀ x, 0 ≤ IntKind.u64.wrap x := fun x => by rw [IntKind.wrap_u64]; omega
  by_cases c : (zs.length : Int) > 0
  · obtain ⟨K1, k1⟩ := Ev.get (main (co zs 0) (U.co uz 0).1)
    refine Ev.ex (F := fun F => attestorlaw09_FoldWords.f F f b s l1 l2 i) (Ev.mk K1 fun F hF => ?_)
    rw [attestorlaw09_FoldWords.f, t1, Option.bind_some, o1, Option.bind_some, o2, Option.bind_some, o3, Option.bind_some, if_pos c, if_pos c, show rd zs 0 = co zs 0 from rd_nat zs 0]
    exact k1 F hF
  · obtain ⟨K1, k1⟩ := Ev.get (main _ (hu i))
    refine Ev.ex (F := fun F => attestorlaw09_FoldWords.f F f b s l1 l2 i) (Ev.mk K1 fun F hF => ?_)
    rw [attestorlaw09_FoldWords.f, t1, Option.bind_some, o1, Option.bind_some, o2, Option.bind_some, o3, Option.bind_some, if_neg c]
    exact k1 F hF
end Go.Proofs.YthinfmfjpaikiaaDoor.Pure

/- Coefficients undoes Values, and Values undoes Coefficients: for every input. -/
import Derived.Test.YtdjjdlkglinlgaaDoorSpecSz
import Derived.Test.YtdjjdlkglinlgaaDoorSpecW
import Derived.Test.YtdjjdlkglinlgaaDoorQ10
namespace Go.Proofs.YtdjjdlkglinlgaaDoor.Pure
open Go.RowKit Go.Proofs.YtdjjdlkglinlgaaDoor.Q Go.Proofs.YtdjjdlkglinlgaaDoor.Num Go.Proofs.YtdjjdlkglinlgaaDoor.Pol Go.Proofs.YtdjjdlkglinlgaaDoorW.PrintWords Go.Proofs.YtdjjdlkglinlgaaDoorW.PrintLast Go.Proofs.YtdjjdlkglinlgaaDoorW.PrintMore

section good
variable {f : Int} {p n : Nat} {s : Int} {v : List Int} (z : Sz f p n s v)
include z
theorem inverse_j1 : Ev (fun K => attestorlaw04_TransformInverse.j1 K f n s v (v.map (· % (p : Int)))) true := by
  have h1 := z.n9
  have h2 := pow10 (k := n) (by omega)
  have hv := z.hv
  have lc := cofs_length p (inv p (wr f p n)) (inv p ((2 ^ n : Nat) : Int)) (inv p s) v (2 ^ n)
  have h3 := nrm_length_le p (cofs p (inv p (wr f p n)) (inv p ((2 ^ n : Nat) : Int)) (inv p s) v (2 ^ n))
  obtain ⟨K1, k1⟩ := Ev.get (z.Coefs hv z.hu)
  have key := s_Values z.h (by omega) z.hg z.s0 z.hs (l := cofs p (inv p (wr f p n)) (inv p ((2 ^ n : Nat) : Int)) (inv p s) v (2 ^ n)) (by omega) (cofs_UL z.h _ _ _ _ _) (by omega)
  rw [z.vals_cofs] at key
  obtain ⟨K2, k2⟩ := Ev.get key
  obtain ⟨K3, k3⟩ := Ev.get (s_same (l := v.map (· % (p : Int))) (by rw [List.length_map]; omega))
  obtain ⟨K4, k4⟩ := Ev.get s_works
  refine Ev.mks (K1 + K2 + K3 + K4) fun K hK => ?_
  rw [attestorlaw04_TransformInverse.j1, k1 K (by omega), Option.bind_some, k2 K (by omega), Option.bind_some, if_pos rfl, if_pos rfl, k3 K (by omega), Option.bind_some, if_pos rfl, k4 K (by omega), Option.bind_some]
theorem inverse_l0 : ∀ (d i : Nat), i + d = 2 ^ n → Ev (fun K => attestorlaw04_TransformInverse.l0 K f n s v ((v.take i).map (· % (p : Int))) i) true := by
  have h1 := z.n9
  have h2 := pow10 (k := n) (by omega)
  have hv := z.hv
  intro d
  induction d with
  | zero =>
    intro i hi
    obtain ⟨K1, k1⟩ := Ev.get z.Values
    have key := z.Coefs (vals_length p (wr f p n) (shf s v) (2 ^ n)) (vals_UL z.h _ _ _)
    rw [z.cofs_vals] at key
    obtain ⟨K2, k2⟩ := Ev.get key
    obtain ⟨K3, k3⟩ := Ev.get (s_same (l := v.map (· % (p : Int))) (by rw [List.length_map]; omega))
    obtain ⟨K4, k4⟩ := Ev.get (inverse_j1 z)
    refine Ev.mks (K1 + K2 + K3 + K4) fun K hK => ?_
    rw [attestorlaw04_TransformInverse.l0, if_neg (by omega), List.take_of_length_le (by omega), k1 K (by omega), Option.bind_some, k2 K (by omega), Option.bind_some, if_pos rfl, if_pos rfl, k3 K (by omega), Option.bind_some, if_pos rfl]
    exact k4 K (by omega)
  | succ d ih =>
    intro i hi
    have hii : i < v.length := by omega
    refine Ev.succ (fun K => ?_) (ih (i + 1) (by omega))
    rw [attestorlaw04_TransformInverse.l0, if_pos (Int.ofNat_lt.2 hii), if_pos (Int.natCast_nonneg _), rd_nat, s_Reduce z.h (U.co z.hu i).1, Option.bind_some, if_pos (by rw [List.length_map, List.length_take]; omega), w64_succ (by omega), map_mod_take_succ p v i hii]
end good
theorem TransformInverse : attestorlaw04_TransformInverse.Pure := by
  intro a0 a1 a2 l h0 h1 h2 _ _ hw
  obtain ⟨f, p, n, s, v, e, z⟩ := s_sized h0 h1 h2 (UL.of_wf hw)
  obtain ⟨K, k⟩ := Ev.ex (inverse_l0 z (2 ^ n) 0 (by omega))
  exact ⟨K, by rw [attestorlaw04_TransformInverse.f, e, Option.bind_some]; exact k⟩
end Go.Proofs.YtdjjdlkglinlgaaDoor.Pure

/- Values and Widen give the values of the polynomial at the points of the cosets: for every input. -/
import Derived.Test.YtdjjdlkglinlgaaDoorSpecSz
import Derived.Test.YtdjjdlkglinlgaaDoorSpecW
import Derived.Test.YtdjjdlkglinlgaaDoorQ12
namespace Go.Proofs.YtdjjdlkglinlgaaDoor.Pure
open Go.RowKit Go.Proofs.YtdjjdlkglinlgaaDoor.Q Go.Proofs.YtdjjdlkglinlgaaDoor.Num Go.Proofs.YtdjjdlkglinlgaaDoor.Pol Go.Proofs.YtdjjdlkglinlgaaDoorW.PrintWords Go.Proofs.YtdjjdlkglinlgaaDoorW.PrintLast Go.Proofs.YtdjjdlkglinlgaaDoorW.PrintMore

theorem shl_mean_tab : ((List.range 11).all fun n => (List.range 11).all fun b => shl .i64 ((2 ^ n : Nat) : Int) (IntKind.u64.wrap (b : Int)) == ((2 ^ (n + b) : Nat) : Int)) = true := by decide +kernel
theorem at_place {a : Int} (ha : (Lit.int .u16 a).wf = true) {n : Nat} (hn : 0 < n) (hn2 : n ≤ 1024) : ∃ i : Nat, i < n ∧ Int.tmod (wrap64 a) (n : Int) = i := by
  simp [Lit.wf, IntKind.min, IntKind.max, IntKind.bits, IntKind.signed] at ha
  rw [w64 (by omega) (by omega), tmod_nn (by omega)]
  have h1 := Int.emod_nonneg a (show (n : Int) ≠ 0 by omega)
  have h2 := Int.emod_lt_of_pos a (show (0 : Int) < n by omega)
  exact ⟨(a % n).toNat, by omega, by omega⟩
theorem co_point {p : Nat} {w s : Int} {l : List Int} {N i : Nat} (hi : i < N) : ev l (s * (w ^ i % p) % p) % p = co (vals p w (shf s l) N) i := by
  rw [co_vals hi, ev_shf]
  exact Cg.mod_eq (ev_arg ((Cg.mod _ _).trans ((Cg.refl _ s).mul (Cg.mod _ _))) l)
section good
variable {f : Int} {p n : Nat} {s : Int} {v : List Int} (z : Sz f p n s v)
include z
theorem means_j2 {a : Int} (ha : (Lit.int .u16 a).wf = true) {b : Nat} (hb : n + b ≤ 10) (hg : ((n + b : Nat) : Int) ≤ gr f) : Ev (fun K => attestorlaw04_TransformMeans.j2 K a f n v (b : Int)) true := by
  have h := z.h
  have hgr := gr_le f
  have hv := z.hv
  have h2 := pow10 hb
  have hp : 0 < 2 ^ (n + b) := Nat.pow_pos (by omega)
  have h5 := pow10 (k := n) (by omega)
  obtain ⟨j, hj, ej⟩ := at_place ha hp h2
  obtain ⟨C, hC⟩ : ∃ C, C = cofs p (inv p (wr f p n)) (inv p ((2 ^ n : Nat) : Int)) (inv p 1) v (2 ^ n) := ⟨_, rfl⟩
  have lC : C.length = 2 ^ n := by rw [hC, cofs_length]
  have uC : UL C := hC ▸ cofs_UL h _ _ _ _ _
  have e1 := s_Coefs h (k := n) (by omega) z.hg (s := 1) (by omega) (one_unit h) hv z.hu
  have e2 := s_Widen h (k := n) (b := b) hb hg hv z.hu
  rw [← hC] at e1 e2
  obtain ⟨K1, k1⟩ := Ev.get e1
  obtain ⟨K2, k2⟩ := Ev.get e2
  obtain ⟨K3, k3⟩ := Ev.get (s_Root h (k := n + b) (by omega))
  obtain ⟨K4, k4⟩ := Ev.get (s_Pow h (wr_nn h (n + b)) j (by omega))
  obtain ⟨K5, k5⟩ := Ev.get (s_Eval h.o (l := C) (by omega) uC (x := gOf f * (wr f p (n + b) ^ j % p) % p) (h.mod _).1)
  obtain ⟨K6, k6⟩ := Ev.get s_works
  have es := beq_iff_eq.1 (List.all_eq_true.1 (List.all_eq_true.1 shl_mean_tab n (List.mem_range.2 (by omega))) b (List.mem_range.2 (by omega)))
  refine Ev.mk (K1 + K2 + K3 + K4 + K5 + K6 + 2) fun K hK => ?_
  obtain ⟨K, rfl⟩ : ∃ K', K = K' + 1 + 1 := ⟨K - 2, by omega⟩
  rw [attestorlaw04_TransformMeans.j2, k1 (K + 1) (by omega), Option.bind_some, k2 (K + 1) (by omega), Option.bind_some, if_pos rfl, if_pos rfl, hv, es, wu64 (by omega) (by omega), if_pos (Int.natCast_nonneg _)]
  dsimp only
  rw [vals_length, if_pos rfl, attestorlaw04_TransformMeans.j3, vals_length, if_neg (by omega), ej, if_pos (Int.natCast_nonneg _), if_pos (Int.ofNat_lt.2 hj), show field_Generator.f f = some (gOf f) from rfl, Option.bind_some, w64 (by omega) (by omega), show (n : Int) + (b : Int) = ((n + b : Nat) : Int) by omega, k3 K (by omega), Option.bind_some, wu64 (by omega) (by omega), k4 K (by omega), Option.bind_some, s_Mul h (gOf_nn f) (h.mod _).1, Option.bind_some, k5 K (by omega), Option.bind_some, rd_nat, co_point hj, if_pos rfl, k6 K (by omega), Option.bind_some]
theorem means_j1 {a : Int} (ha : (Lit.int .u16 a).wf = true) : Ev (fun K => attestorlaw04_TransformMeans.j1 K a f n v) true := by
  have hgr := gr_le f
  have h1 := z.n9
  have hg := z.hg
  have h5 : 5 ≤ gr f := by
    have h0 := z.h.lo
    have h1 := z.h.hi
    have : f = 0 ∨ f = 1 ∨ f = 2 ∨ f = 3 := by omega
    rcases this with e | e | e | e <;> rw [e] <;> decide
  by_cases q : (n : Int) < 5
  · obtain ⟨b, hb⟩ : ∃ b : Nat, mn 2 (wrap64 (5 - (n : Int))) = b ∧ n + b ≤ 5 := by
      rw [w64 (by omega) (by omega), mn]
      by_cases q2 : 5 - (n : Int) < 2
      · exact ⟨5 - n, by rw [if_pos q2]; omega, by omega⟩
      · exact ⟨2, by rw [if_neg q2]; rfl, by omega⟩
    refine Ev.succ (fun K => ?_) (means_j2 z ha (b := b) (by omega) (by omega))
    rw [attestorlaw04_TransformMeans.j1, if_pos q, hb.1]
  · refine Ev.succ (fun K => ?_) (means_j2 z ha (b := 0) (by omega) (by omega))
    rw [attestorlaw04_TransformMeans.j1, if_neg q]
    rfl
end good
theorem TransformMeans : attestorlaw04_TransformMeans.Pure := by
  intro a0 a1 a2 l a h0 h1 h2 _ _ hw ha
  obtain ⟨f, p, n, s, v, e, z⟩ := s_sized h0 h1 h2 (UL.of_wf hw)
  have h := z.h
  have hgr := gr_le f
  have hg := z.hg
  have hv := z.hv
  have h9 := z.n9
  have h2 := pow10 (k := n) (by omega)
  have hp : 0 < 2 ^ n := Nat.pow_pos (by omega)
  obtain ⟨i, hi, ei⟩ := at_place ha hp h2
  obtain ⟨K1, k1⟩ := Ev.get z.Values
  obtain ⟨K2, k2⟩ := Ev.get (s_Root h (k := n) (by omega))
  obtain ⟨K3, k3⟩ := Ev.get (s_Pow h (wr_nn h n) i (by omega))
  obtain ⟨K4, k4⟩ := Ev.get (s_Eval h.o (l := v) (by omega) z.hu (x := s * (wr f p n ^ i % p) % p) (h.mod _).1)
  obtain ⟨K5, k5⟩ := Ev.get (means_j1 z ha)
  refine Ev.ex (F := fun K => attestorlaw04_TransformMeans.f K a0 a1 a2 l a) (Ev.mk (K1 + K2 + K3 + K4 + K5 + 1) fun K hK => ?_)
  obtain ⟨K, rfl⟩ : ∃ K', K = K' + 1 := ⟨K - 1, by omega⟩
  rw [attestorlaw04_TransformMeans.f, e, Option.bind_some, k1 (K + 1) (by omega), Option.bind_some, if_pos rfl]
  dsimp only
  rw [vals_length, hv, if_pos rfl, attestorlaw04_TransformMeans.j0, vals_length, if_neg (by omega), ei, if_pos (Int.natCast_nonneg _), if_pos (Int.ofNat_lt.2 hi), k2 K (by omega), Option.bind_some, wu64 (by omega) (by omega), k3 K (by omega), Option.bind_some, s_Mul h z.s0 (h.mod _).1, Option.bind_some, k4 K (by omega), Option.bind_some, rd_nat, co_point hi, if_pos rfl]
  exact k5 K (by omega)
end Go.Proofs.YtdjjdlkglinlgaaDoor.Pure

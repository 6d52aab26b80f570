/- What the law's 'sized' makes. -/
import Derived.Test.YtdjjdlkglinlgaaDoorSpecV
import Derived.Test.YtdjjdlkglinlgaaDoorSpecS
import Derived.Test.YtdjjdlkglinlgaaDoorQ9
namespace Go.Proofs.YtdjjdlkglinlgaaDoor.Pure
open Go.RowKit Go.Proofs.YtdjjdlkglinlgaaDoor.Q Go.Proofs.YtdjjdlkglinlgaaDoor.Num Go.Proofs.YtdjjdlkglinlgaaDoor.Pol Go.Proofs.YtdjjdlkglinlgaaDoorW.PrintWords Go.Proofs.YtdjjdlkglinlgaaDoorW.PrintLast Go.Proofs.YtdjjdlkglinlgaaDoorW.PrintMore

structure Sz (f : Int) (p n : Nat) (s : Int) (v : List Int) : Prop where
  h : FP f p
  n9 : n ≤ 9
  hg : (n : Int) ≤ gr f
  s0 : 0 ≤ s
  hs : s % p ≠ 0
  hv : v.length = 2 ^ n
  hu : UL v
theorem sized_one {c e a1 a2 : Int} {l : List Int} {p : Nat} (h : FP c p) (he : 0 ≤ e ∧ e ≤ 9) (hg : e ≤ gr c) (h1 : (Lit.int .u8 a1).wf = true) (h2 : 0 ≤ a2) (hl : UL l) : ∃ n s v, sized_r c e a1 a2 l = some (c, ((n : Nat) : Int), s, v) ∧ Sz c p n s v := by
  simp [Lit.wf, IntKind.min, IntKind.max, IntKind.bits, IntKind.signed] at h1
  have hw : Int.tmod (wrap64 (Int.tmod a1 10)) (e + 1) = a1 % 10 % (e + 1) := by
    rw [tmod_nn (a := a1) (by omega), w64 (by omega) (by omega), tmod_nn (by omega)]
  have w0 := Int.emod_nonneg (a1 % 10) (show e + 1 ≠ 0 by omega)
  have w1 := Int.emod_lt_of_pos (a1 % 10) (show (0 : Int) < e + 1 by omega)
  obtain ⟨n, hn⟩ : ∃ n : Nat, Int.tmod (wrap64 (Int.tmod a1 10)) (e + 1) = n := ⟨(a1 % 10 % (e + 1)).toNat, by omega⟩
  have hn9 : (n : Int) ≤ e := by omega
  clear w0 w1 hw
  have hp : 2 ^ n ≤ 1024 := pow10 (by omega)
  refine ⟨n, if a2 % p = 0 then 1 else a2, cpyAt (List.replicate (2 ^ n) 0) 0 l, ?_, h, by omega, by omega, ?_, ?_, ?_, ?_⟩
  · rw [sized_r, hn, if_pos ⟨Int.natCast_nonneg _, by omega⟩, s_Reduce h h2, Option.bind_some, Int.toNat_natCast]
  · split
    · omega
    · exact h2
  · split
    · exact one_unit h
    · assumption
  · rw [length_cpyAt _ _ _ (by simp)]; simp
  · intro c hc
    rw [cpyAt, splice] at hc
    rw [List.mem_append, List.mem_append] at hc
    rcases hc with hc | hc | hc
    · simp at hc
    · exact hl c (List.mem_of_mem_take hc)
    · have := List.mem_of_mem_drop hc
      rw [(List.mem_replicate.1 this).2]; exact U.zero
theorem s_sized {a0 a1 a2 : Int} {l : List Int} (h0 : (Lit.int .u8 a0).wf = true) (h1 : (Lit.int .u8 a1).wf = true) (h2 : (Lit.int .u64 a2).wf = true) (hl : UL l) : ∃ f p n s v, attestorlaw04_sized.f a0 a1 a2 l = some (f, ((n : Nat) : Int), s, v) ∧ Sz f p n s v := by
  have h4 := field4 h0
  have h2 := (U.of_wf h2).1
  unfold attestorlaw04_sized.f
  generalize wrap64 (Int.tmod a0 4) = c at h4 ⊢
  by_cases q0 : c = 0
  · obtain ⟨n, s, v, e, z⟩ := sized_one (c := 0) (e := 5) (p := 97) ⟨by omega, by omega, rfl, pr97, by omega⟩ (by omega) (by decide) h1 h2 hl
    exact ⟨0, 97, n, s, v, by rw [if_pos q0, e], z⟩
  · by_cases q1 : c = 1
    · obtain ⟨n, s, v, e, z⟩ := sized_one (c := 1) (e := 8) (p := 257) ⟨by omega, by omega, rfl, pr257, by omega⟩ (by omega) (by decide) h1 h2 hl
      exact ⟨1, 257, n, s, v, by rw [if_neg q0, if_pos q1, e], z⟩
    · by_cases q2 : c = 2
      · obtain ⟨n, s, v, e, z⟩ := sized_one (c := 2) (e := 9) (p := 12289) ⟨by omega, by omega, rfl, pr12289, by omega⟩ (by omega) (by decide) h1 h2 hl
        exact ⟨2, 12289, n, s, v, by rw [if_neg q0, if_neg q1, if_pos q2, e], z⟩
      · obtain ⟨n, s, v, e, z⟩ := sized_one (c := 3) (e := 9) (p := 998244353) ⟨by omega, by omega, rfl, pr998244353, by omega⟩ (by omega) (by decide) h1 h2 hl
        exact ⟨3, 998244353, n, s, v, by rw [if_neg q0, if_neg q1, if_neg q2, if_pos (by omega), e], z⟩
section good
variable {f : Int} {p n : Nat} {s : Int} {v : List Int} (z : Sz f p n s v)
include z
/-- The length is a unit. -/
theorem Sz.two : ¬ Cg p ((2 ^ n : Nat) : Int) 0 := fun c => by
  have h := z.h
  have h2 : ¬ Cg p (2 : Int) 0 := fun c => by
    have h3 := h.three
    have := mod_eq_zero.2 c
    rw [Int.emod_eq_of_lt (by omega) (by omega)] at this
    omega
  rw [Int.natCast_pow] at c
  clear z
  induction n with
  | zero => rw [Int.pow_zero] at c; exact one_not_zero h c
  | succ k ih =>
    rw [Int.pow_succ] at c
    rcases h.pr.int c with c | c
    · exact ih c
    · exact h2 c
theorem Sz.Values : Ev (fun K => transform_Values.f K f n s v) (vals p (wr f p n) (shf s v) (2 ^ n), 0) := by
  have h1 := z.n9
  have h2 := pow10 (k := n) (by omega)
  have h3 := nrm_length_le p v
  have h4 := z.hv
  exact s_Values z.h (by omega) z.hg z.s0 z.hs (by omega) z.hu (by omega)
end good
end Go.Proofs.YtdjjdlkglinlgaaDoor.Pure

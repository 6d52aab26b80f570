/- What the program's Values, Coefficients and Widen answer. -/
import Derived.Test.YtdjjdlkglinlgaaDoorCof
import Derived.Test.YtdjjdlkglinlgaaDoorSpecB
import Derived.Test.YtdjjdlkglinlgaaDoorSpecU
import Derived.Test.YtdjjdlkglinlgaaDoorQ3
namespace Go.Proofs.YtdjjdlkglinlgaaDoor.Pure
open Go.RowKit Go.Proofs.YtdjjdlkglinlgaaDoor.Q Go.Proofs.YtdjjdlkglinlgaaDoor.Num Go.Proofs.YtdjjdlkglinlgaaDoor.Pol Go.Proofs.YtdjjdlkglinlgaaDoorW.PrintWords Go.Proofs.YtdjjdlkglinlgaaDoorW.PrintLast Go.Proofs.YtdjjdlkglinlgaaDoorW.PrintMore

/-- The exponent of the greatest size. -/
def gr (f : Int) : Int := mn (tOf f) 18
theorem gr_le (f : Int) : 0 ≤ gr f ∧ gr f ≤ tOf f ∧ gr f ≤ 18 := by
  unfold gr mn tOf
  split <;> (repeat' split) <;> omega
theorem s_gr (f : Int) : transform_greatest.f f = some (gr f) := s_greatest f
theorem pow10 {k : Nat} (hk : k ≤ 10) : 2 ^ k ≤ 1024 := Nat.pow_le_pow_right (by omega) hk
theorem shl_tab : ((List.range 31).all fun k => shl .i64 1 ((k : Nat) : Int) == ((2 ^ k : Nat) : Int)) = true := by decide +kernel
theorem s_shl {k : Nat} (hk : k ≤ 30) : shl .i64 1 (k : Int) = ((2 ^ k : Nat) : Int) := by
  have := List.all_eq_true.1 shl_tab k (List.mem_range.2 (by omega))
  exact beq_iff_eq.1 this
theorem cpyAt_zeros (n : Nat) (l : List Int) (hl : l.length ≤ n) : cpyAt (List.replicate n 0) 0 l = l ++ List.replicate (n - l.length) 0 := by
  unfold cpyAt splice
  simp [List.take_of_length_le hl]
section bad
variable {f : Int} (h : f < 0 ∨ 4 ≤ f)
include h
theorem b_Values (k s : Int) (l : List Int) : Ev (fun K => transform_Values.f K f k s l) ([], 1) := Ev.all fun K => by
  rw [transform_Values.f, b_Reduce h, Option.bind_some, if_pos rfl]
end bad
section good
variable {f : Int} {p : Nat} (h : FP f p)
include h
theorem Values_zero {s : Int} (hs : 0 ≤ s) (h0 : s % p = 0) (k : Int) (l : List Int) : Ev (fun K => transform_Values.f K f k s l) ([], 1) := Ev.all fun K => by
  rw [transform_Values.f, s_Reduce h hs, Option.bind_some, if_pos h0]
theorem Values_range {s : Int} (hs : 0 ≤ s) (h0 : s % p ≠ 0) {k : Int} (hk : k < 0 ∨ k > gr f) (l : List Int) : Ev (fun K => transform_Values.f K f k s l) ([], 2) := Ev.all fun K => by
  rw [transform_Values.f, s_Reduce h hs, Option.bind_some, if_neg h0]
  by_cases q : k < 0
  · rw [if_pos q]
  · rw [if_neg q, s_gr, Option.bind_some, if_pos (by omega)]
theorem shf_len {s : Int} (h0 : s % p ≠ 0) (l : List Int) : (nrm p (shf s l)).length = (nrm p l).length := by
  have hs : ¬ Cg p s 0 := fun c => h0 (mod_eq_zero.2 c)
  have hp : ∀ j : Nat, ¬ Cg p (s ^ j) 0 := fun j => by
    induction j with
    | zero => rw [Int.pow_zero]; exact one_not_zero h
    | succ j ih =>
      rw [Int.pow_succ]
      intro c
      rcases h.pr.int c with c | c
      · exact ih c
      · exact hs c
  have e : ∀ n, Deg p (shf s l) n ↔ Deg p l n := fun n => by
    constructor
    · intro d i hi
      have := d i hi
      rw [co_shf] at this
      rcases h.pr.int this with c | c
      · exact c
      · exact absurd c (hp i)
    · intro d i hi
      rw [co_shf]
      have := (d i hi).mul (Cg.refl p (s ^ i))
      rwa [Int.zero_mul] at this
  have h1 := nrm_deg h.pos ((e _).2 (Deg.of_nrm (p := p) (l := l)))
  have h2 := nrm_deg h.pos ((e _).1 (Deg.of_nrm (p := p) (l := shf s l)))
  omega
theorem Values_long {k : Nat} (hg : (k : Int) ≤ gr f) {s : Int} (hs : 0 ≤ s) (h0 : s % p ≠ 0) {l : List Int} (hl : l.length ≤ 1000000) (hu : UL l) (hn : 2 ^ k < (nrm p l).length) : Ev (fun K => transform_Values.f K f k s l) ([], 3) := by
  have hb := gr_le f
  obtain ⟨K1, k1⟩ := Ev.get (s_Shift h.o hl hu hs)
  refine Ev.mk K1 fun K hK => ?_
  rw [transform_Values.f, s_Reduce h hs, Option.bind_some, if_neg h0, if_neg (by omega), s_gr, Option.bind_some, if_neg (by omega), k1 K hK, Option.bind_some, if_pos (Int.natCast_nonneg _), s_shl (by omega), shf_len h h0, if_pos (Int.ofNat_lt.2 hn)]
theorem s_Values {k : Nat} (hk : k ≤ 10) (hg : (k : Int) ≤ gr f) {s : Int} (hs : 0 ≤ s) (h0 : s % p ≠ 0) {l : List Int} (hl : l.length ≤ 1000000) (hu : UL l) (hn : (nrm p l).length ≤ 2 ^ k) :
    Ev (fun K => transform_Values.f K f k s l) (vals p (wr f p k) (shf s l) (2 ^ k), 0) := by
  have hb := gr_le f
  have h2 := pow10 hk
  have ha : (nrm p (shf s l)).length ≤ 2 ^ k := by rw [shf_len h h0]; exact hn
  obtain ⟨K1, k1⟩ := Ev.get (s_Shift h.o hl hu hs)
  obtain ⟨a, ea⟩ : ∃ a, a = nrm p (shf s l) := ⟨_, rfl⟩
  have ua : UL a := ea ▸ nrm_UL h.o _
  rw [← ea] at ha k1
  have ec := cpyAt_zeros (2 ^ k) a ha
  have lc : (a ++ List.replicate (2 ^ k - a.length) 0).length = 2 ^ k := by simp; omega
  have uc : UL (a ++ List.replicate (2 ^ k - a.length) 0) := ua.append (UL.replicate _)
  have cc : ∀ i, co (a ++ List.replicate (2 ^ k - a.length) 0) i = co a i := fun i => by
    rw [co_append]
    by_cases q : i < a.length
    · rw [if_pos q]
    · rw [if_neg q, co_replicate, co_over (by omega)]
  obtain ⟨K2, k2⟩ := Ev.get (s_reo h hk lc uc)
  obtain ⟨K3, k3⟩ := Ev.get (s_Root h (k := k) (by omega))
  obtain ⟨K4, k4⟩ := Ev.get (s_bf h k (wr f p k) a (reo p k (a ++ List.replicate (2 ^ k - a.length) 0)) (wr_nn h k) (wr_rt h (by omega)) ha (reo_length ..) (fun i hi => by rw [co_reo hi, cc]))
  refine Ev.mk (K1 + K2 + K3 + K4) fun K hK => ?_
  have lt : ¬ ((a.length : Int) > ((2 ^ k : Nat) : Int)) := by have := Int.ofNat_le.2 ha; omega
  rw [transform_Values.f, s_Reduce h hs, Option.bind_some, if_neg h0, if_neg (by omega), s_gr, Option.bind_some, if_neg (by omega), k1 K (by omega), Option.bind_some, if_pos (Int.natCast_nonneg _), s_shl (by omega), if_neg lt, if_pos (Int.natCast_nonneg _), Int.toNat_natCast, if_pos (by omega), ec, k2 K (by omega), Option.bind_some, k3 K (by omega), Option.bind_some, k4 K (by omega), Option.bind_some, ea, vals_congr (nrm_eqp p (shf s l))]
end good
end Go.Proofs.YtdjjdlkglinlgaaDoor.Pure

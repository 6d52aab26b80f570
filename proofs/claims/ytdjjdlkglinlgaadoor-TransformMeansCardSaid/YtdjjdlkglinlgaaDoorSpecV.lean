/- What the program's Values, Coefficients and Widen answer. -/
import Derived.Test.YtdjjdlkglinlgaaDoorCof
import Derived.Test.YtdjjdlkglinlgaaDoorSpecB
import Derived.Test.YtdjjdlkglinlgaaDoorSpecU
import Derived.Test.YtdjjdlkglinlgaaDoorQ3
namespace Go.Proofs.YtdjjdlkglinlgaaDoor.Pure
open Go.RowKit Go.Proofs.YtdjjdlkglinlgaaDoor.Q Go.Proofs.YtdjjdlkglinlgaaDoor.Num Go.Proofs.YtdjjdlkglinlgaaDoor.Pol Go.Proofs.YtdjjdlkglinlgaaDoorW.PrintWords Go.Proofs.YtdjjdlkglinlgaaDoorW.PrintLast Go.Proofs.YtdjjdlkglinlgaaDoorW.PrintMore

/-- The exponent of the greatest size. -/
def gr (f : Int) : Int := mn (tOf f) 18
theorem gr_le (f : Int) : 0 ≤ gr f ∧ gr f ≤ tOf f ∧ gr f ≤ 18 := by
  unfold gr mn tOf
  split <;> (repeat' split) <;> omega
theorem s_gr (f : Int) : transform_greatest.f f = some (gr f) := s_greatest f
theorem pow10 {k : Nat} (hk : k ≤ 10) : 2 ^ k ≤ 1024 := Nat.pow_le_pow_right (by omega) hk
theorem shl_tab : ((List.range 31).all fun k => shl .i64 1 ((k : Nat) : Int) == ((2 ^ k : Nat) : Int)) = true := by decide +kernel
theorem s_shl {k : Nat} (hk : k ≤ 30) : shl .i64 1 (k : Int) = ((2 ^ k : Nat) : Int) := by
  have := List.all_eq_true.1 shl_tab k (List.mem_range.2 (by omega))
  exact beq_iff_eq.1 this
theorem and_tab : ((List.range 31).all fun k => Go.bits .and .i64 ((2 ^ k : Nat) : Int) (wrap64 (((2 ^ k : Nat) : Int) - 1)) == 0) = true := by decide +kernel
theorem s_and {k : Nat} (hk : k ≤ 30) : Go.bits .and .i64 ((2 ^ k : Nat) : Int) (wrap64 (((2 ^ k : Nat) : Int) - 1)) = 0 := by
  have := List.all_eq_true.1 and_tab k (List.mem_range.2 (by omega))
  exact beq_iff_eq.1 this
theorem s_exp (f : Int) {k n : Nat} (hk : k ≤ 10) (hn : n = 2 ^ k) : Ev (fun K => transform_exponent.f K f n) ((k : Int), decide ((k : Int) ≤ gr f)) := by
  have h1 : 0 < 2 ^ k := Nat.pow_pos (by omega)
  have h2 := pow10 hk
  refine Ev.mks 0 fun K _ => ?_
  subst hn
  rw [transform_exponent.f, if_neg (by omega), s_and (by omega), transform_exponent.j0, if_neg (by decide), wu64 (by omega) (by omega), s_tz (by omega), Option.bind_some, s_gr, Option.bind_some]
theorem cpyAt_zeros (n : Nat) (l : List Int) (hl : l.length ≤ n) : cpyAt (List.replicate n 0) 0 l = l ++ List.replicate (n - l.length) 0 := by
  unfold cpyAt splice
  simp [List.take_of_length_le hl]
section bad
variable {f : Int} (h : f < 0 ∨ 4 ≤ f)
include h
end bad
section good
variable {f : Int} {p : Nat} (h : FP f p)
include h
theorem shf_len {s : Int} (h0 : s % p ≠ 0) (l : List Int) : (nrm p (shf s l)).length = (nrm p l).length := by
  have hs : ¬ Cg p s 0 := fun c => h0 (mod_eq_zero.2 c)
  have hp : ∀ j : Nat, ¬ Cg p (s ^ j) 0 := fun j => by
    induction j with
    | zero => rw [Int.pow_zero]; exact one_not_zero h
    | succ j ih =>
      rw [Int.pow_succ]
      intro c
      rcases h.pr.int c with c | c
      · exact ih c
      · exact hs c
  have e : ∀ n, Deg p (shf s l) n ↔ Deg p l n := fun n => by
    constructor
    · intro d i hi
      have := d i hi
      rw [co_shf] at this
      rcases h.pr.int this with c | c
      · exact c
      · exact absurd c (hp i)
    · intro d i hi
      rw [co_shf]
      have := (d i hi).mul (Cg.refl p (s ^ i))
      rwa [Int.zero_mul] at this
  have h1 := nrm_deg h.pos ((e _).2 (Deg.of_nrm (p := p) (l := l)))
  have h2 := nrm_deg h.pos ((e _).1 (Deg.of_nrm (p := p) (l := shf s l)))
  omega
theorem s_Values {k : Nat} (hk : k ≤ 10) (hg : (k : Int) ≤ gr f) {s : Int} (hs : 0 ≤ s) (h0 : s % p ≠ 0) {l : List Int} (hl : l.length ≤ 1000000) (hu : UL l) (hn : (nrm p l).length ≤ 2 ^ k) :
    Ev (fun K => transform_Values.f K f k s l) (vals p (wr f p k) (shf s l) (2 ^ k), 0) := by
  have hb := gr_le f
  have h2 := pow10 hk
  have ha : (nrm p (shf s l)).length ≤ 2 ^ k := by rw [shf_len h h0]; exact hn
  obtain ⟨K1, k1⟩ := Ev.get (s_Shift h.o hl hu hs)
  obtain ⟨a, ea⟩ : ∃ a, a = nrm p (shf s l) := ⟨_, rfl⟩
  have ua : UL a := ea ▸ nrm_UL h.o _
  rw [← ea] at ha k1
  have ec := cpyAt_zeros (2 ^ k) a ha
  have lc : (a ++ List.replicate (2 ^ k - a.length) 0).length = 2 ^ k := by simp; omega
  have uc : UL (a ++ List.replicate (2 ^ k - a.length) 0) := ua.append (UL.replicate _)
  have cc : ∀ i, co (a ++ List.replicate (2 ^ k - a.length) 0) i = co a i := fun i => by
    rw [co_append]
    by_cases q : i < a.length
    · rw [if_pos q]
    · rw [if_neg q, co_replicate, co_over (by omega)]
  obtain ⟨K2, k2⟩ := Ev.get (s_reo h hk lc uc)
  obtain ⟨K3, k3⟩ := Ev.get (s_Root h (k := k) (by omega))
  obtain ⟨K4, k4⟩ := Ev.get (s_bf h k (wr f p k) a (reo p k (a ++ List.replicate (2 ^ k - a.length) 0)) (wr_nn h k) (wr_rt h (by omega)) ha (reo_length ..) (fun i hi => by rw [co_reo hi, cc]))
  refine Ev.mk (K1 + K2 + K3 + K4) fun K hK => ?_
  have lt : ¬ ((a.length : Int) > ((2 ^ k : Nat) : Int)) := by have := Int.ofNat_le.2 ha; omega
  rw [transform_Values.f, s_Reduce h hs, Option.bind_some, if_neg h0, if_neg (by omega), s_gr, Option.bind_some, if_neg (by omega), k1 K (by omega), Option.bind_some, if_pos (Int.natCast_nonneg _), s_shl (by omega), if_neg lt, if_pos (Int.natCast_nonneg _), Int.toNat_natCast, if_pos (by omega), ec, k2 K (by omega), Option.bind_some, k3 K (by omega), Option.bind_some, k4 K (by omega), Option.bind_some, ea, vals_congr (nrm_eqp p (shf s l))]
theorem coefs_l0 {c t : Int} {v : List Int} {n : Nat} (hn : n ≤ 1024) (t0 : 0 ≤ t) : ∀ (d i : Nat) (x : List Int) (sc : Int), i + d = n → x.length = n → 0 ≤ sc → Cg p sc (c * t ^ i) → ∀ u : Int, (∀ j, j < n → co x j = if i ≤ j then ev v (u ^ j) % p else (ev v (u ^ j) * (c * t ^ j)) % p) →
    Ev (fun K => transform_Coefficients.l0 K f x sc t n i) (cofs p u c t v n, 0) := by
  intro d
  induction d with
  | zero =>
    intro i x sc hi hx _ _ u hc
    have e : cofs p u c t v n = x := ext_co (by rw [cofs_length, hx]) fun j hj => by rw [cofs_length] at hj; rw [co_cofs hj, hc j hj, if_neg (by omega)]
    refine Ev.mks 0 fun K _ => ?_
    rw [transform_Coefficients.l0, if_neg (by omega), e]
  | succ d ih =>
    intro i x sc hi hx s0 sc1 u hc
    have hii : i < n := by omega
    have ci := hc i hii
    rw [if_pos (Nat.le_refl _)] at ci
    have c0 : 0 ≤ co x i := by rw [ci]; exact (h.mod _).1
    refine Ev.succ (fun K => ?_) (ih (i + 1) (x.set i (co x i * sc % p)) (sc * t % p) (by omega) (by simpa using hx) (h.mod _).1 (by rw [Int.pow_succ, ← Int.mul_assoc]; exact (Cg.mod _ _).trans (sc1.mul (Cg.refl _ _))) u (fun j hj => ?_))
    · rw [transform_Coefficients.l0, if_pos (Int.ofNat_lt.2 hii), if_pos (Int.natCast_nonneg _), hx, if_pos (Int.ofNat_lt.2 hii), rd_nat, s_Mul h c0 s0, Option.bind_some, s_Mul h s0 t0, Option.bind_some, w64_succ (by omega), Int.toNat_natCast]
    · rw [co_set (by omega)]
      by_cases q : j = i
      · subst q
        rw [if_pos rfl, if_neg (by omega), ci]
        exact Cg.mod_eq ((Cg.mod _ _).mul sc1)
      · rw [if_neg q, hc j hj]
        by_cases q2 : i ≤ j
        · rw [if_pos q2, if_pos (by omega)]
        · rw [if_neg q2, if_neg (by omega)]
theorem s_Coefs {k : Nat} (hk : k ≤ 10) (hg : (k : Int) ≤ gr f) {s : Int} (hs : 0 ≤ s) (h0 : s % p ≠ 0) {v : List Int} (hv : v.length = 2 ^ k) (hu : UL v) :
    Ev (fun K => transform_Coefficients.f K f s v) (cofs p (inv p (wr f p k)) (inv p ((2 ^ k : Nat) : Int)) (inv p s) v (2 ^ k), 0) := by
  have hb := gr_le f
  have h2 := pow10 hk
  have hw := inv_spec h.pr (wr_unit h (k := k))
  obtain ⟨K1, k1⟩ := Ev.get (s_exp f hk hv)
  obtain ⟨K2, k2⟩ := Ev.get (s_reo h hk hv hu)
  obtain ⟨K3, k3⟩ := Ev.get (s_Root h (k := k) (by omega))
  obtain ⟨K4, k4⟩ := Ev.get (s_Inv h (wr_nn h k))
  obtain ⟨K5, k5⟩ := Ev.get (s_bf h k (inv p (wr f p k)) v (reo p k v) (inv_nn h.pr _) ((wr_rt h (by omega)).inv hw) (by omega) (reo_length ..) (fun i hi => by rw [co_reo hi]))
  obtain ⟨K6, k6⟩ := Ev.get (s_Inv h (a := ((2 ^ k : Nat) : Int)) (Int.natCast_nonneg _))
  obtain ⟨K7, k7⟩ := Ev.get (s_Inv h hs)
  obtain ⟨K8, k8⟩ := Ev.get (coefs_l0 h (c := inv p ((2 ^ k : Nat) : Int)) (t := inv p s) (v := v) h2 (inv_nn h.pr _) (2 ^ k) 0 (vals p (inv p (wr f p k)) v (2 ^ k)) (inv p ((2 ^ k : Nat) : Int)) (by omega) (vals_length ..) (inv_nn h.pr _) (Cg.of_eq (by simp)) (inv p (wr f p k)) (fun j hj => by rw [if_pos (Nat.zero_le _), co_vals hj]))
  refine Ev.mk (K1 + K2 + K3 + K4 + K5 + K6 + K7 + K8) fun K hK => ?_
  rw [transform_Coefficients.f, s_Reduce h hs, Option.bind_some, if_neg h0, k1 K (by omega), Option.bind_some, if_pos (decide_eq_true hg), k2 K (by omega), Option.bind_some, k3 K (by omega), Option.bind_some, k4 K (by omega), Option.bind_some, k5 K (by omega), Option.bind_some, hv, wu64 (by omega) (by omega), k6 K (by omega), Option.bind_some, k7 K (by omega), Option.bind_some, vals_length]
  exact k8 K (by omega)
theorem cofs_UL (u c t : Int) (v : List Int) (n : Nat) : UL (cofs p u c t v n) := fun x hx => by
  obtain ⟨j, hj, rfl⟩ := List.mem_map.1 hx
  exact h.U _
theorem gOf_unit : gOf f % p ≠ 0 := by
  have h0 := h.lo
  have h1 := h.hi
  have h2 := h.eq
  have : f = 0 ∨ f = 1 ∨ f = 2 ∨ f = 3 := by omega
  rcases this with rfl | rfl | rfl | rfl <;> simp [pOf] at h2 <;> simp [gOf, ← h2]
theorem one_unit : (1 : Int) % p ≠ 0 := fun c => one_not_zero h (mod_eq_zero.1 c)
theorem s_Widen {k b : Nat} (hk : k + b ≤ 10) (hg : ((k + b : Nat) : Int) ≤ gr f) {v : List Int} (hv : v.length = 2 ^ k) (hu : UL v) :
    Ev (fun K => transform_Widen.f K f v b) (vals p (wr f p (k + b)) (shf (gOf f) (cofs p (inv p (wr f p k)) (inv p ((2 ^ k : Nat) : Int)) (inv p 1) v (2 ^ k))) (2 ^ (k + b)), 0) := by
  have hb := gr_le f
  have h2 := pow10 (k := k) (by omega)
  have h3 : 2 ^ k ≤ 2 ^ (k + b) := Nat.pow_le_pow_right (by omega) (by omega)
  have lc := cofs_length p (inv p (wr f p k)) (inv p ((2 ^ k : Nat) : Int)) (inv p 1) v (2 ^ k)
  obtain ⟨K1, k1⟩ := Ev.get (s_exp f (by omega) hv)
  rw [decide_eq_true (show (k : Int) ≤ gr f by omega)] at k1
  obtain ⟨K2, k2⟩ := Ev.get (s_Coefs h (k := k) (by omega) (by omega) (s := 1) (by omega) (one_unit h) hv hu)
  obtain ⟨K3, k3⟩ := Ev.get (s_Values h (k := k + b) hk hg (s := gOf f) (gOf_nn f) (gOf_unit h) (l := cofs p (inv p (wr f p k)) (inv p ((2 ^ k : Nat) : Int)) (inv p 1) v (2 ^ k)) (by omega) (cofs_UL h _ _ _ _ _) (by
    have := nrm_length_le p (cofs p (inv p (wr f p k)) (inv p ((2 ^ k : Nat) : Int)) (inv p 1) v (2 ^ k))
    omega))
  refine Ev.mk (K1 + K2 + K3 + 1) fun K hK => ?_
  obtain ⟨K, rfl⟩ : ∃ K', K = K' + 1 := ⟨K - 1, by omega⟩
  rw [transform_Widen.f, s_Valid h, Option.bind_some, if_pos rfl, k1 (K + 1) (by omega), Option.bind_some]
  dsimp only
  rw [if_pos rfl, if_neg (by omega), s_gr, Option.bind_some, w64 (n := gr f - (k : Int)) (by omega) (by omega), decide_eq_false (show ¬ ((b : Int) > gr f - (k : Int)) by omega), transform_Widen.j0, if_neg Bool.false_ne_true, k2 K (by omega), Option.bind_some, show field_Generator.f f = some (gOf f) from rfl, Option.bind_some, w64 (by omega) (by omega), show (k : Int) + (b : Int) = ((k + b : Nat) : Int) by omega, k3 K (by omega), Option.bind_some]
end good
end Go.Proofs.YtdjjdlkglinlgaaDoor.Pure

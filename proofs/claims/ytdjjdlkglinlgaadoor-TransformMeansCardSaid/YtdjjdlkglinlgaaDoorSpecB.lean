/- What the program's butterflies and reordered answer. -/
import Derived.Test.YtdjjdlkglinlgaaDoorNtt
import Derived.Test.YtdjjdlkglinlgaaDoorSpecL
import Derived.Test.YtdjjdlkglinlgaaDoorSpecPw
import Derived.KernelRfl
import Derived.Test.YtdjjdlkglinlgaaDoorQ3
namespace Go.Proofs.YtdjjdlkglinlgaaDoor.Pure
open Go.RowKit Go.Proofs.YtdjjdlkglinlgaaDoor.Q Go.Proofs.YtdjjdlkglinlgaaDoor.Num Go.Proofs.YtdjjdlkglinlgaaDoor.Pol Go.Proofs.YtdjjdlkglinlgaaDoorW.PrintWords Go.Proofs.YtdjjdlkglinlgaaDoorW.PrintLast Go.Proofs.YtdjjdlkglinlgaaDoorW.PrintMore

theorem bco_co (l : List Int) (i : Nat) : bco l i = co l i := rfl
theorem evn_length : ∀ (l : List Int) (n : Nat), l.length ≤ 2 * n → (evn l).length ≤ n
  | [], n, _ => by simp [evn]
  | [c], n, h => by simp at h; simp [evn]; omega
  | c :: d :: t, n, h => by
    simp at h
    obtain ⟨m, rfl⟩ : ∃ m, n = m + 1 := ⟨n - 1, by omega⟩
    have := evn_length t m (by omega)
    simp [evn]; omega
theorem odn_length : ∀ (l : List Int) (n : Nat), l.length ≤ 2 * n → (odn l).length ≤ n
  | [], n, _ => by simp [odn]
  | [c], n, h => by simp [odn]
  | c :: d :: t, n, h => by
    simp at h
    obtain ⟨m, rfl⟩ : ∃ m, n = m + 1 := ⟨n - 1, by omega⟩
    have := odn_length t m (by omega)
    simp [odn]; omega
section good
variable {f : Int} {p : Nat} (h : FP f p)
include h
theorem bf_l0 {w : Int} {a : List Int} {k : Nat} (w0 : 0 ≤ w) (rt : Rt p w (k + 1)) : ∀ (d i : Nat) (lo hi : List Int) (pw : Int), i + d = 2 ^ k → lo.length = 2 ^ k → hi.length = 2 ^ k → 0 ≤ pw → Cg p pw (w ^ i) →
    (∀ j, j < 2 ^ k → co lo j = if j < i then ev a (w ^ j) % p else ev (evn a) ((w * w % p) ^ j) % p) → (∀ j, j < 2 ^ k → co hi j = if j < i then ev a (w ^ (2 ^ k + j)) % p else ev (odn a) ((w * w % p) ^ j) % p) →
    Ev (fun K => transform_butterflies.l0 K f w (2 ^ k) lo hi pw i) (vals p w a (2 ^ (k + 1))) := by
  intro d
  induction d with
  | zero =>
    intro i lo hi pw hi' h1 h2 _ _ hlo hhi
    refine Ev.succ (F := fun _ => some (vals p w a (2 ^ (k + 1)))) (fun K => ?_) (Ev.all fun _ => rfl)
    rw [transform_butterflies.l0, if_neg (by omega)]
    refine congrArg some (ext_co (by rw [List.length_append, vals_length, Nat.pow_succ]; omega) fun j hj => ?_)
    rw [List.length_append] at hj
    rw [co_vals (by rw [Nat.pow_succ]; omega), co_append]
    by_cases q : j < lo.length
    · rw [if_pos q, hlo j (by omega), if_pos (by omega)]
    · rw [if_neg q, hhi (j - lo.length) (by omega), if_pos (by omega), show 2 ^ k + (j - lo.length) = j by omega]
  | succ d ih =>
    intro i lo hi pw hi' h1 h2 p0 pc hlo hhi
    have hi2 : i < 2 ^ k := by omega
    have clo := hlo i hi2
    have chi := hhi i hi2
    rw [if_neg (by omega)] at clo chi
    have l0 : 0 ≤ co lo i := by rw [clo]; exact (h.mod _).1
    have h0 : 0 ≤ co hi i := by rw [chi]; exact (h.mod _).1
    have hsq : Cg p ((w * w % p) ^ i) (w ^ i * w ^ i) := by
      have := (Cg.mod (p : Int) (w * w)).pow i
      rwa [Int.mul_pow] at this
    have hE : Cg p (co lo i) (ev (evn a) (w ^ i * w ^ i)) := by rw [clo]; exact (Cg.mod _ _).trans (ev_arg hsq _)
    have hO : Cg p (pw * co hi i % p) (w ^ i * ev (odn a) (w ^ i * w ^ i)) := (Cg.mod _ _).trans (pc.mul (by rw [chi]; exact (Cg.mod _ _).trans (ev_arg hsq _)))
    have e1 : (co lo i + pw * co hi i % p) % p = ev a (w ^ i) % p := by
      refine Cg.mod_eq ((hE.add hO).trans (Cg.of_eq ?_))
      exact (ev_halves (w ^ i) a).symm
    have e2 : (co lo i - pw * co hi i % p) % p = ev a (w ^ (2 ^ k + i)) % p := by
      refine Cg.mod_eq ((hE.sub hO).trans ?_)
      have hn : Cg p (w ^ (2 ^ k + i)) (-1 * w ^ i) := by rw [Int.pow_add]; exact (rt k rfl).mul (Cg.refl _ _)
      have hnn : Cg p (w ^ (2 ^ k + i) * w ^ (2 ^ k + i)) (w ^ i * w ^ i) := (hn.mul hn).trans (Cg.of_eq (by grind))
      have g1 : Cg p (ev (evn a) (w ^ i * w ^ i)) (ev (evn a) (w ^ (2 ^ k + i) * w ^ (2 ^ k + i))) := ev_arg hnn.symm _
      have g2 : Cg p (-1 * w ^ i * ev (odn a) (w ^ i * w ^ i)) (w ^ (2 ^ k + i) * ev (odn a) (w ^ (2 ^ k + i) * w ^ (2 ^ k + i))) := hn.symm.mul (ev_arg hnn.symm _)
      have g3 := g1.add g2
      rw [← ev_halves] at g3
      exact (Cg.of_eq (by grind)).trans g3
    refine Ev.succ (fun K => ?_) (ih (i + 1) (lo.set i (ev a (w ^ i) % p)) (hi.set i (ev a (w ^ (2 ^ k + i)) % p)) (pw * w % p) (by omega) (by simpa using h1) (by simpa using h2) (h.mod _).1 (by rw [Int.pow_succ]; exact (Cg.mod _ _).trans (pc.mul (Cg.refl _ _))) (fun j hj => ?_) (fun j hj => ?_))
    · rw [transform_butterflies.l0, if_pos hi2, bco_co, bco_co, s_Mul h p0 h0, Option.bind_some, s_Add h l0 (h.mod _).1, Option.bind_some, s_Sub h l0 (h.mod _).1, Option.bind_some, s_Mul h p0 w0, Option.bind_some, e1, e2]
    · rw [co_set (by omega)]
      by_cases q : j = i
      · subst q; rw [if_pos rfl, if_pos (by omega)]
      · rw [if_neg q, hlo j hj]
        by_cases q2 : j < i
        · rw [if_pos q2, if_pos (by omega)]
        · rw [if_neg q2, if_neg (by omega)]
    · rw [co_set (by omega)]
      by_cases q : j = i
      · subst q; rw [if_pos rfl, if_pos (by omega)]
      · rw [if_neg q, hhi j hj]
        by_cases q2 : j < i
        · rw [if_pos q2, if_pos (by omega)]
        · rw [if_neg q2, if_neg (by omega)]
theorem s_bf : ∀ (k : Nat) (w : Int) (a l : List Int), 0 ≤ w → Rt p w k → a.length ≤ 2 ^ k → l.length = 2 ^ k → (∀ i, i < 2 ^ k → co l i = co a (rev k i) % p) → Ev (fun K => transform_butterflies.f K f l w) (vals p w a (2 ^ k))
  | 0, w, a, l, _, _, ha, hl, hc => by
    refine Ev.succ (F := fun _ => some (vals p w a (2 ^ 0))) (fun K => ?_) (Ev.all fun _ => rfl)
    rw [transform_butterflies.f, if_pos (by simpa using hl)]
    refine congrArg some (ext_co (by rw [vals_length]; exact hl) fun i hi => ?_)
    obtain rfl : i = 0 := by simp at hl; omega
    rw [co_vals (by simp), hc 0 (by simp), rev, Int.pow_zero]
    congr 1
    rw [Nat.pow_zero] at ha
    match a, ha with
    | [], _ => simp [ev]
    | [c], _ => simp [ev]
    | _ :: _ :: _, ha => simp at ha
  | k + 1, w, a, l, w0, rt, ha, hl, hc => by
    have e2 : 2 ^ (k + 1) / 2 = 2 ^ k := by rw [Nat.pow_succ]; omega
    have hp : 0 < 2 ^ k := Nat.pow_pos (by omega)
    have ha2 : a.length ≤ 2 * 2 ^ k := by rw [Nat.pow_succ] at ha; omega
    have rs : Rt p (w * w % p) k := rt.sq.congr (Cg.mod _ _).symm
    have i1 := s_bf k (w * w % p) (evn a) (l.take (2 ^ k)) (h.mod _).1 rs (evn_length a _ ha2) (by rw [List.length_take, hl, Nat.pow_succ]; omega) (fun i hi => by rw [co_take, if_pos hi, hc i (by rw [Nat.pow_succ]; omega), rev_low hi, co_evn])
    have i2 := s_bf k (w * w % p) (odn a) (l.drop (2 ^ k)) (h.mod _).1 rs (odn_length a _ ha2) (by rw [List.length_drop, hl, Nat.pow_succ]; omega) (fun i hi => by rw [co_drop, hc (2 ^ k + i) (by rw [Nat.pow_succ]; omega), rev_high hi, co_odn])
    have i3 := bf_l0 h (a := a) w0 rt (2 ^ k) 0 (vals p (w * w % p) (evn a) (2 ^ k)) (vals p (w * w % p) (odn a) (2 ^ k)) 1 (by omega) (vals_length ..) (vals_length ..) (by omega) (Cg.of_eq (Int.pow_zero w).symm) (fun j hj => by rw [if_neg (by omega), co_vals hj]) (fun j hj => by rw [if_neg (by omega), co_vals hj])
    obtain ⟨K1, k1⟩ := Ev.get i1
    obtain ⟨K2, k2⟩ := Ev.get i2
    obtain ⟨K3, k3⟩ := Ev.get i3
    refine Ev.mks (K1 + K2 + K3) fun K hK => ?_
    rw [transform_butterflies.f, if_neg (by omega), s_Mul h w0 w0, Option.bind_some, hl, e2, k1 K (by omega), Option.bind_some, k2 K (by omega), Option.bind_some]
    exact k3 K (by omega)
end good

/-! ### The order of the turned bits -/
theorem rev_all : ((List.range 11).all fun k => (List.range (2 ^ k)).all fun i => bits_Reverse64.f (IntKind.u64.wrap (i : Int)) == (some (match bits_Reverse64.f (IntKind.u64.wrap (i : Int)) with | some r => r | none => 0)) && (wrap64 ((match bits_Reverse64.f (IntKind.u64.wrap (i : Int)) with | some r => r | none => 0) / 2 ^ (64 - (k : Int)).toNat) == ((rev k i : Nat) : Int))) = true := by decide +kernel
theorem s_rev {k i : Nat} (hk : k ≤ 10) (hi : i < 2 ^ k) : ∃ r, bits_Reverse64.f (IntKind.u64.wrap (i : Int)) = some r ∧ wrap64 (r / 2 ^ (64 - (k : Int)).toNat) = ((rev k i : Nat) : Int) := by
  have h1 := List.all_eq_true.1 rev_all k (List.mem_range.2 (by omega))
  have h2 := List.all_eq_true.1 h1 i (List.mem_range.2 hi)
  rw [Bool.and_eq_true, beq_iff_eq, beq_iff_eq] at h2
  exact ⟨_, h2.1, h2.2⟩
theorem s_tz {k : Nat} (hk : k < 63) : bits_TrailingZeros.f ((2 ^ k : Nat) : Int) = some (k : Int) := by
  have e : bits_TrailingZeros64.f ((2 ^ k : Nat) : Int) = some (k : Int) := by
    have := tz64_pow hk
    rw [Int.natCast_pow]
    exact this
  rw [bits_TrailingZeros.f, e, Option.bind_some]
def reo (p : Nat) (k : Nat) (l : List Int) : List Int := (List.range (2 ^ k)).map fun j => co l (rev k j) % p
theorem reo_length (p k : Nat) (l : List Int) : (reo p k l).length = 2 ^ k := by simp [reo]
theorem co_reo {p k : Nat} {l : List Int} {i : Nat} (h : i < 2 ^ k) : co (reo p k l) i = co l (rev k i) % p := by
  rw [co_lt (by rw [reo_length]; exact h)]; simp [reo]
section good
variable {f : Int} {p : Nat} (h : FP f p)
include h
theorem reo_l0 {l : List Int} {k : Nat} (hk : k ≤ 10) (hl : l.length = 2 ^ k) (hu : UL l) : ∀ (d i : Nat) (x : List Int), i + d = 2 ^ k → x.length = 2 ^ k → (∀ j, j < 2 ^ k → co (reo p k l) j = if i ≤ j then co l (rev k j) % p else co x j) → Ev (fun K => transform_reordered.l0 K f k l x i) (reo p k l) := by
  intro d
  induction d with
  | zero =>
    intro i x hi hx hy
    have e : reo p k l = x := ext_co (by rw [reo_length, hx]) fun j hj => by rw [reo_length] at hj; rw [hy j hj, if_neg (by omega)]
    refine Ev.succ (F := fun _ => some (reo p k l)) (fun K => ?_) (Ev.all fun _ => rfl)
    rw [transform_reordered.l0, if_neg (by omega), e]
  | succ d ih =>
    intro i x hi hx hy
    have hi2 : i < 2 ^ k := by omega
    obtain ⟨r, e1, e2⟩ := s_rev hk hi2
    have hr := rev_lt k i hi2
    refine Ev.succ (fun K => ?_) (ih (i + 1) (x.set i (co l (rev k i) % p)) (by omega) (by simpa using hx) (fun j hj => ?_))
    · rw [transform_reordered.l0, if_pos (by omega), e1, Option.bind_some, e2, if_pos ⟨Int.natCast_nonneg _, Int.ofNat_lt.2 (by omega)⟩, rd_nat, s_Reduce h (U.co hu _).1, Option.bind_some]
    · rw [hy j hj, co_set (by omega)]
      by_cases q : j = i
      · subst q; rw [if_pos (Nat.le_refl _), if_neg (by omega), if_pos rfl]
      · rw [if_neg q]
        by_cases q2 : i ≤ j
        · rw [if_pos q2, if_pos (by omega)]
        · rw [if_neg q2, if_neg (by omega)]
theorem s_reo {l : List Int} {k : Nat} (hk : k ≤ 10) (hl : l.length = 2 ^ k) (hu : UL l) : Ev (fun K => transform_reordered.f K f l) (reo p k l) := by
  have hp : 2 ^ k ≤ 2 ^ 10 := Nat.pow_le_pow_right (by omega) hk
  have e10 : 2 ^ 10 = 1024 := rfl
  refine Ev.congr (fun K => ?_) (reo_l0 h hk hl hu (2 ^ k) 0 (List.replicate (2 ^ k) 0) (by omega) (by simp) (fun j hj => by rw [co_reo hj, if_pos (Nat.zero_le _)]))
  rw [transform_reordered.f, hl, s_tz (by omega), Option.bind_some, if_pos ⟨Int.natCast_nonneg _, by omega, by omega⟩]
end good
/-! ### The roots -/
theorem s_Twos (f : Int) : field_Twos.f f = some (tOf f) := rfl
theorem s_greatest (f : Int) : transform_greatest.f f = some (mn (tOf f) 18) := by rw [transform_greatest.f, s_Twos, Option.bind_some]
/-- The root whose first power 1 is the 2^k-th. -/
def wr (f : Int) (p k : Nat) : Int := gOf f ^ ((p - 1) / 2 ^ k) % p
theorem half0 : field_Pow.f 12 0 5 ((48 : Nat) : Int) = some 96 := by decide +kernel
theorem half1 : field_Pow.f 12 1 3 ((128 : Nat) : Int) = some 256 := by decide +kernel
theorem half2 : field_Pow.f 20 2 11 ((6144 : Nat) : Int) = some 12288 := by decide +kernel
theorem half3 : field_Pow.f 40 3 3 ((499122176 : Nat) : Int) = some 998244352 := by decide +kernel
theorem half_of {f : Int} {p : Nat} (h : FP f p) {g : Int} (g0 : 0 ≤ g) {K e : Nat} (he : e < 1000000000) {v : Int} (hv : field_Pow.f K f g ((e : Nat) : Int) = some v) (hp : v = (p : Int) - 1) : Cg p (g ^ e) (-1) := by
  have e1 := (s_Pow h g0 e (by omega)).uniq (Ev.of_mono (fun k => field_Pow.mono _ _ _ k) hv)
  refine (Cg.mod (p : Int) (g ^ e)).symm.trans ?_
  rw [e1, hp]
  exact ⟨1, by omega⟩
theorem gOf_nn (f : Int) : 0 ≤ gOf f := by unfold gOf; split <;> (try split) <;> (try split) <;> (try split) <;> omega
theorem wr_half_aux {f : Int} {p : Nat} (h : FP f p) : ∃ t m : Nat, tOf f = t ∧ 1 ≤ t ∧ p - 1 = 2 ^ t * m ∧ Cg p (gOf f ^ ((p - 1) / 2)) (-1) := by
  have h0 := h.lo
  have h1 := h.hi
  have h2 := h.eq
  have : f = 0 ∨ f = 1 ∨ f = 2 ∨ f = 3 := by omega
  rcases this with rfl | rfl | rfl | rfl
  · obtain rfl : p = 97 := by simp [pOf] at h2; omega
    exact ⟨5, 3, rfl, by omega, rfl, half_of h (by decide) (by decide) half0 rfl⟩
  · obtain rfl : p = 257 := by simp [pOf] at h2; omega
    exact ⟨8, 1, rfl, by omega, rfl, half_of h (by decide) (by decide) half1 rfl⟩
  · obtain rfl : p = 12289 := by simp [pOf] at h2; omega
    exact ⟨12, 3, rfl, by omega, rfl, half_of h (by decide) (by decide) half2 rfl⟩
  · obtain rfl : p = 998244353 := by simp [pOf] at h2; omega
    exact ⟨23, 119, rfl, by omega, rfl, half_of h (by decide) (by decide) half3 rfl⟩
section good
variable {f : Int} {p : Nat} (h : FP f p)
include h
theorem wr_dvd {k : Nat} (hk : (k : Int) ≤ tOf f) : (p - 1) / 2 ^ k * 2 ^ k = p - 1 := by
  obtain ⟨t, m, e1, _, e3, _⟩ := wr_half_aux h
  rw [e3]
  refine Nat.div_mul_cancel (Nat.dvd_trans (Nat.pow_dvd_pow 2 (by omega)) (Nat.dvd_mul_right _ _))
theorem wr_rt {k : Nat} (hk : (k : Int) ≤ tOf f) : Rt p (wr f p k) k := fun j hj => by
  obtain ⟨t, m, e1, e2, e3, e4⟩ := wr_half_aux h
  have hd := wr_dvd h hk
  refine ((Cg.mod (p : Int) _).pow _).trans ?_
  rw [← Int.pow_mul]
  have e5 : (p - 1) / 2 ^ k * 2 ^ j = (p - 1) / 2 := by
    subst hj
    generalize (p - 1) / 2 ^ (j + 1) = u at hd ⊢
    rw [Nat.pow_succ, ← Nat.mul_assoc] at hd
    omega
  rw [e5]
  exact e4
theorem wr_nn (k : Nat) : 0 ≤ wr f p k := (h.mod _).1
theorem wr_unit {k : Nat} : ¬ Cg p (wr f p k) 0 := fun hc => by
  have g1 : Cg p (gOf f ^ ((p - 1) / 2 ^ k)) 0 := (Cg.mod _ _).symm.trans hc
  obtain ⟨t, m, e1, e2, e3, e4⟩ := wr_half_aux h
  have hg : Cg p (gOf f) 0 := by
    generalize (p - 1) / 2 ^ k = e at g1
    induction e with
    | zero => rw [Int.pow_zero] at g1; exact absurd g1 (one_not_zero h)
    | succ e ih =>
      rw [Int.pow_succ] at g1
      rcases h.pr.int g1 with q | q
      · exact ih q
      · exact q
  have e5 := hg.pow ((p - 1) / 2)
  have h3 := h.three
  rw [Int.zero_pow (by omega)] at e5
  have := (e5.symm.trans e4).neg
  rw [Int.neg_zero] at this
  exact one_not_zero h (this.symm)
theorem s_Root {k : Nat} (hk : (k : Int) ≤ tOf f) : Ev (fun K => field_Root.f K f (k : Int)) (wr f p k) := by
  have hp := h.pos
  have hl := h.lei
  obtain ⟨t, m, e1, _⟩ := wr_half_aux h
  have ht : t ≤ 64 := by
    have : tOf f ≤ 23 := by unfold tOf; split <;> (try split) <;> (try split) <;> (try split) <;> omega
    omega
  have e : IntKind.u64.wrap (pOf f - 1) / 2 ^ min (k : Int).toNat 64 = (((p - 1) / 2 ^ k : Nat) : Int) := by
    rw [h.eq, wu64 (by omega) (by omega), Int.toNat_natCast, Nat.min_eq_left (by omega), show (p : Int) - 1 = ((p - 1 : Nat) : Int) by omega, Int.natCast_ediv, Int.natCast_pow]
    rfl
  refine Ev.congr (fun K => ?_) (s_Pow h (gOf_nn f) ((p - 1) / 2 ^ k) (by have := Nat.div_le_self (p - 1) (2 ^ k); omega))
  rw [field_Root.f, if_neg (by rw [h.eq]; omega), if_neg (by omega), if_neg (by omega), e]
end good
end Go.Proofs.YtdjjdlkglinlgaaDoor.Pure

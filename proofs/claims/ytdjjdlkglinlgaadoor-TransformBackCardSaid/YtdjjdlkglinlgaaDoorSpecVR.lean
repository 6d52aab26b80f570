/- What the reference's Values, Coefficients and Widen answer. -/
import Derived.Test.YtdjjdlkglinlgaaDoorSpecV
import Derived.Test.YtdjjdlkglinlgaaDoorSpecR
import Derived.Test.YtdjjdlkglinlgaaDoorQ1
import Derived.Test.YtdjjdlkglinlgaaDoorQ5
import Derived.Test.YtdjjdlkglinlgaaDoorQ7
namespace Go.Proofs.YtdjjdlkglinlgaaDoor.Pure
open Go.RowKit Go.Proofs.YtdjjdlkglinlgaaDoor.Q Go.Proofs.YtdjjdlkglinlgaaDoor.Num Go.Proofs.YtdjjdlkglinlgaaDoor.Pol Go.Proofs.YtdjjdlkglinlgaaDoorW.PrintWords Go.Proofs.YtdjjdlkglinlgaaDoorW.PrintLast Go.Proofs.YtdjjdlkglinlgaaDoorW.PrintMore

theorem r_Twos (f : Int) : attestorref01_Twos.f f = some (tOf f) := by
  unfold attestorref01_Twos.f tOf
  by_cases h0 : f = 0
  · rw [if_pos h0, if_pos h0]
  · by_cases h1 : f = 1
    · rw [if_neg h0, if_neg h0, if_pos h1, if_pos h1]
    · by_cases h2 : f = 2
      · rw [if_neg h0, if_neg h0, if_neg h1, if_neg h1, if_pos h2, if_pos h2]
      · by_cases h3 : f = 3
        · rw [if_neg h0, if_neg h0, if_neg h1, if_neg h1, if_neg h2, if_neg h2, if_pos h3, if_pos h3]
        · rw [if_neg h0, if_neg h0, if_neg h1, if_neg h1, if_neg h2, if_neg h2, if_neg h3, if_neg h3]
theorem r_gr (f : Int) : attestorref04_Greatest.f f = some (gr f) := by rw [attestorref04_Greatest.f, r_Twos, Option.bind_some]; rfl
theorem rshl_tab : ((List.range 31).all fun k => shl .i64 1 (IntKind.u64.wrap ((k : Nat) : Int)) == ((2 ^ k : Nat) : Int)) = true := by decide +kernel
/-! ### The exponent of a power of two -/
theorem rbits_tab : ((List.range 1025).all fun n => attestorref04_Bits.f 20 (n : Int) == some (match (List.range 11).find? (fun k => 2 ^ k == n) with | some k => (k : Int) | none => -1)) = true := by decide +kernel
theorem r_Bits_no {n : Nat} (hn : n ≤ 1024) (h : ¬ P2 n) : Ev (fun K => attestorref04_Bits.f K (n : Int)) (-1) := by
  have := beq_iff_eq.1 (List.all_eq_true.1 rbits_tab n (List.mem_range.2 (by omega)))
  refine Ev.of_mono (fun k => attestorref04_Bits.mono _ k) (K := 20) (this.trans ?_)
  have e : (List.range 11).find? (fun k => 2 ^ k == n) = none := List.find?_eq_none.2 fun k hk hc => h ⟨k, by have := List.mem_range.1 hk; omega, (beq_iff_eq.1 hc).symm⟩
  rw [e]
theorem r_Bits {k n : Nat} (hk : k ≤ 10) (hn : n = 2 ^ k) : Ev (fun K => attestorref04_Bits.f K (n : Int)) (k : Int) := by
  have h2 := pow10 hk
  have := beq_iff_eq.1 (List.all_eq_true.1 rbits_tab n (List.mem_range.2 (by omega)))
  refine Ev.of_mono (fun k => attestorref04_Bits.mono _ k) (K := 20) (this.trans ?_)
  cases hf : (List.range 11).find? (fun k => 2 ^ k == n) with
  | none =>
    have := List.find?_eq_none.1 hf k (List.mem_range.2 (by omega))
    exact absurd (beq_iff_eq.2 hn.symm) this
  | some j =>
    have := beq_iff_eq.1 (show (2 ^ j == n) = true from List.find?_some (p := fun k => 2 ^ k == n) hf)
    have : j = k := (Nat.pow_right_inj (a := 2) (by decide)).1 (this.trans hn)
    subst this
    rfl
theorem bz {p : Nat} {s : Int} (h0 : s % p ≠ 0) : (s % (p : Int) == 0) = false := beq_eq_false_iff_ne.2 h0
theorem rs_shl {k : Nat} (hk : k ≤ 30) : shl .i64 1 (IntKind.u64.wrap (k : Int)) = ((2 ^ k : Nat) : Int) := beq_iff_eq.1 (List.all_eq_true.1 rshl_tab k (List.mem_range.2 (by omega)))
section bad
variable {f : Int} (h : f < 0 ∨ 4 ≤ f)
include h
theorem br_Coefs (s : Int) (v : List Int) : Ev (fun K => attestorref04_Coefficients.f K f s v) ([], 1) := Ev.mks 0 fun K _ => by
  rw [attestorref04_Coefficients.f, br_Valid h, Option.bind_some, if_neg (by decide), attestorref04_Coefficients.j0, if_pos rfl]
theorem br_Widen (v : List Int) (b : Int) : Ev (fun K => attestorref04_Widen.f K f v b) ([], 1) := Ev.all fun K => by
  rw [attestorref04_Widen.f, br_Valid h, Option.bind_some, if_neg (by decide)]
end bad
section good
variable {f : Int} {p : Nat} (h : FP f p)
include h
theorem r_Gen : Ev (fun K => attestorref01_Generator.f K f) (gOf f) := by
  have h0 := h.lo
  have h1 := h.hi
  have : f = 0 ∨ f = 1 ∨ f = 2 ∨ f = 3 := by omega
  refine Ev.mks 0 fun K _ => ?_
  rcases this with rfl | rfl | rfl | rfl <;> rfl
theorem rroot_l {k : Nat} (hk : (k : Int) ≤ tOf f) : ∀ (d i : Nat), i + d = k → Ev (fun K => attestorref01_Root.l0 K f k (((p - 1) / 2 ^ i : Nat) : Int) i) (wr f p k) := by
  have hl := h.lei
  have ht : tOf f ≤ 23 := by unfold tOf; (repeat' split) <;> omega
  have hb : ∀ i, (p - 1) / 2 ^ i ≤ 1000000000 := fun i => by have := Nat.div_le_self (p - 1) (2 ^ i); omega
  intro d
  induction d with
  | zero =>
    intro i hi
    obtain rfl : i = k := by omega
    obtain ⟨K1, k1⟩ := Ev.get (r_Gen h)
    obtain ⟨K2, k2⟩ := Ev.get (r_Pow h (gOf_nn f) ((p - 1) / 2 ^ i) ((p - 1) / 2 ^ i) (Nat.le_refl _) (by have := hb i; omega))
    refine Ev.mks (K1 + K2) fun K hK => ?_
    rw [attestorref01_Root.l0, if_neg (by omega), k1 K (by omega), Option.bind_some, k2 K (by omega), Option.bind_some]
    rfl
  | succ d ih =>
    intro i hi
    have e : Int.tdiv (((p - 1) / 2 ^ i : Nat) : Int) 2 = (((p - 1) / 2 ^ (i + 1) : Nat) : Int) := by
      rw [Int.tdiv_eq_ediv_of_nonneg (Int.natCast_nonneg _), Nat.pow_succ, ← Nat.div_div_eq_div_mul]
      omega
    refine Ev.succ (fun K => ?_) (ih (i + 1) (by omega))
    rw [attestorref01_Root.l0, if_pos (by omega), e, wu64 (Int.natCast_nonneg _) (by have := hb (i + 1); omega), w64_succ (by omega)]
theorem r_Root {k : Nat} (hk : (k : Int) ≤ tOf f) : Ev (fun K => attestorref01_Root.f K f k) (wr f p k) := by
  have hl := h.lei
  have hp := h.pos
  obtain ⟨K1, k1⟩ := Ev.get (rroot_l h hk k 0 (by omega))
  rw [Nat.pow_zero, Nat.div_one] at k1
  refine Ev.mk (K1 + 1) fun K hK => ?_
  obtain ⟨K, rfl⟩ : ∃ K', K = K' + 1 := ⟨K - 1, by omega⟩
  rw [attestorref01_Root.f, r_Valid h, Option.bind_some, if_pos rfl, if_neg (by omega), r_Twos, Option.bind_some, decide_eq_false (by omega), attestorref01_Root.j0, if_neg (by decide), h.eqr, Option.bind_some, wu64 (by omega) (by omega), show (p : Int) - 1 = ((p - 1 : Nat) : Int) by omega]
  exact k1 K (by omega)
theorem r_Point {k : Nat} (hk : (k : Int) ≤ tOf f) {s : Int} (hs : 0 ≤ s) {i : Nat} (hi : i < 1000000000) : Ev (fun K => attestorref04_Point.f K f k s i) (s * (wr f p k ^ i % p) % p) := by
  obtain ⟨K1, k1⟩ := Ev.get (r_Root h hk)
  obtain ⟨K2, k2⟩ := Ev.get (r_Pow h (wr_nn h k) i i (Nat.le_refl _) (by omega))
  refine Ev.mk (K1 + K2) fun K hK => ?_
  rw [attestorref04_Point.f, k1 K (by omega), Option.bind_some, wu64 (by omega) (by omega), k2 K (by omega), Option.bind_some, r_Mul h hs (h.mod _).1, Option.bind_some]
theorem rvalues_l {k : Nat} (hk : k ≤ 10) (hg : (k : Int) ≤ gr f) {s : Int} (hs : 0 ≤ s) {l : List Int} (hl : l.length ≤ 1000000) (hu : UL l) : ∀ (d i : Nat), i + d = 2 ^ k →
    Ev (fun K => attestorref04_Values.l0 K f k s l ((2 ^ k : Nat) : Int) ((vals p (wr f p k) (shf s l) (2 ^ k)).take i) i) (vals p (wr f p k) (shf s l) (2 ^ k), 0) := by
  have hb := gr_le f
  have h2 := pow10 hk
  intro d
  induction d with
  | zero =>
    intro i hi
    refine Ev.mks 0 fun K _ => ?_
    rw [attestorref04_Values.l0, if_neg (by omega), List.take_of_length_le (by rw [vals_length]; omega)]
  | succ d ih =>
    intro i hi
    obtain ⟨K1, k1⟩ := Ev.get (r_Point h (k := k) (by omega) hs (i := i) (by omega))
    obtain ⟨K2, k2⟩ := Ev.get (r_Eval h.o hl hu (x := s * (wr f p k ^ i % p) % p) (h.mod _).1)
    obtain ⟨K3, k3⟩ := Ev.get (ih (i + 1) (by omega))
    have e : ev l (s * (wr f p k ^ i % p) % p) % p = co (vals p (wr f p k) (shf s l) (2 ^ k)) i := by
      rw [co_vals (by omega), ev_shf]
      exact Cg.mod_eq (ev_arg ((Cg.mod _ _).trans ((Cg.refl _ s).mul (Cg.mod _ _))) l)
    refine Ev.mks (K1 + K2 + K3) fun K hK => ?_
    rw [attestorref04_Values.l0, if_pos (Int.ofNat_lt.2 (by omega)), k1 K (by omega), Option.bind_some, k2 K (by omega), Option.bind_some, if_pos (by rw [List.length_take, vals_length]; omega), e, w64_succ (by omega)]
    have e2 : (vals p (wr f p k) (shf s l) (2 ^ k)).take i ++ [co (vals p (wr f p k) (shf s l) (2 ^ k)) i] = (vals p (wr f p k) (shf s l) (2 ^ k)).take (i + 1) := by
      rw [co_lt (by rw [vals_length]; omega)]
      exact List.take_append_getElem (by rw [vals_length]; omega)
    rw [e2]
    exact k3 K (by omega)
theorem r_Values {k : Nat} (hk : k ≤ 10) (hg : (k : Int) ≤ gr f) {s : Int} (hs : 0 ≤ s) (h0 : s % p ≠ 0) {l : List Int} (hl : l.length ≤ 1000000) (hu : UL l) (hn : (nrm p l).length ≤ 2 ^ k) :
    Ev (fun K => attestorref04_Values.f K f k s l) (vals p (wr f p k) (shf s l) (2 ^ k), 0) := by
  have hb := gr_le f
  have h1 := nrm_length_le p l
  obtain ⟨K1, k1⟩ := Ev.get (r_Normal h.o hl hu)
  obtain ⟨K2, k2⟩ := Ev.get (rvalues_l h hk hg hs (l := nrm p l) (by omega) (nrm_UL h.o l) (2 ^ k) 0 (by omega))
  refine Ev.mk (K1 + K2 + 2) fun K hK => ?_
  obtain ⟨K, rfl⟩ : ∃ K', K = K' + 1 + 1 := ⟨K - 2, by omega⟩
  have lt : ¬ (((nrm p l).length : Int) > ((2 ^ k : Nat) : Int)) := by have := Int.ofNat_le.2 hn; omega
  rw [attestorref04_Values.f, r_Valid h, Option.bind_some, if_pos rfl, r_Reduce h hs, Option.bind_some, bz h0, attestorref04_Values.j0, if_neg (by decide), if_neg (by omega), r_gr, Option.bind_some, decide_eq_false (by omega), attestorref04_Values.j1, if_neg (by decide), k1 K (by omega), Option.bind_some, rs_shl (by omega), wu64 (by omega) (by omega), if_pos (Int.natCast_nonneg _), if_neg lt]
  have e := vals_congr (w := wr f p k) (shf_eqp s (nrm_eqp p l)) (2 ^ k)
  rw [e] at k2
  exact k2 K (by omega)
/-! ### Coefficients -/
theorem rcoefs_in {k : Nat} (hk : k ≤ 10) (hg : (k : Int) ≤ gr f) {s : Int} (hs : 0 ≤ s) (h0 : s % p ≠ 0) {v : List Int} (hv : v.length = 2 ^ k) (hu : UL v) {j : Nat} (hj : j < 2 ^ k) {acc : List Int} (ha : acc.length = j) {R : List Int × Int}
    (hK : Ev (fun K => attestorref04_Coefficients.l0 K f s v k (acc ++ [co (cofs p (inv p (wr f p k)) (inv p ((2 ^ k : Nat) : Int)) (inv p s) v (2 ^ k)) j]) ((j + 1 : Nat) : Int)) R) :
    ∀ (d i : Nat), i + d = 2 ^ k → ∀ x : Int, 0 ≤ x → Cg p x (inv p s ^ j * ev (v.take i) (inv p (wr f p k) ^ j)) → Ev (fun K => attestorref04_Coefficients.l1 K f s v k acc j x i) R := by
  have hb := gr_le f
  have h2 := pow10 hk
  have hw := inv_spec h.pr (wr_unit h (k := k))
  have hsu : ¬ Cg p s 0 := fun c => h0 (mod_eq_zero.2 c)
  have hs1 := inv_spec h.pr hsu
  intro d
  induction d with
  | zero =>
    intro i hi x x0 hx
    obtain ⟨K1, k1⟩ := Ev.get (r_Div h x0 (b := ((2 ^ k : Nat) : Int)) (Int.natCast_nonneg _))
    obtain ⟨K2, k2⟩ := Ev.get hK
    refine Ev.mks (K1 + K2) fun K hK => ?_
    have e : x * inv p ((2 ^ k : Nat) : Int) % p = co (cofs p (inv p (wr f p k)) (inv p ((2 ^ k : Nat) : Int)) (inv p s) v (2 ^ k)) j := by
      rw [co_cofs hj]
      rw [List.take_of_length_le (by omega)] at hx
      exact Cg.mod_eq ((hx.mul (Cg.refl _ _)).trans (Cg.of_eq (by grind)))
    rw [attestorref04_Coefficients.l1, if_neg (by omega), hv, wu64 (by omega) (by omega), k1 K (by omega), Option.bind_some, if_pos (by omega), w64_succ (by omega), e]
    exact k2 K (by omega)
  | succ d ih =>
    intro i hi x x0 hx
    have hii : i < v.length := by omega
    obtain ⟨K1, k1⟩ := Ev.get (r_Point h (k := k) (by omega) hs (i := i) (by omega))
    obtain ⟨K2, k2⟩ := Ev.get (r_Inv h (a := s * (wr f p k ^ i % p) % p) (h.mod _).1)
    obtain ⟨y, hy⟩ : ∃ y, y = inv p (s * (wr f p k ^ i % p) % p) := ⟨_, rfl⟩
    have y0 : 0 ≤ y := hy ▸ inv_nn h.pr _
    have yc : Cg p y (inv p s * inv p (wr f p k) ^ i) := by
      have c1 : Cg p (s * (wr f p k ^ i % p) % p) (s * wr f p k ^ i) := (Cg.mod _ _).trans ((Cg.refl _ s).mul (Cg.mod _ _))
      have c2 : Cg p ((s * (wr f p k ^ i % p) % p) * (inv p s * inv p (wr f p k) ^ i)) 1 := by
        refine (c1.mul (Cg.refl _ _)).trans ?_
        have := hs1.mul (pow_pair hw i)
        rw [Int.mul_one] at this
        exact (Cg.of_eq (by grind)).trans this
      have c3 : ¬ Cg p (s * (wr f p k ^ i % p) % p) 0 := fun c => by
        have := (c.mul (Cg.refl _ (inv p s * inv p (wr f p k) ^ i))).symm.trans c2
        rw [Int.zero_mul] at this
        exact one_not_zero h this.symm
      rw [hy]
      exact inv_uniq (inv_spec h.pr c3) c2
    rw [← hy] at k2
    obtain ⟨K3, k3⟩ := Ev.get (r_Pow h y0 j j (Nat.le_refl _) (by omega))
    obtain ⟨K4, k4⟩ := Ev.get (ih (i + 1) (by omega) ((x + co v i * (y ^ j % p) % p) % p) (h.mod _).1 (by
      rw [ev_take_succ, Int.mul_add]
      refine (Cg.mod _ _).trans (hx.add ((Cg.mod _ _).trans ?_))
      refine ((Cg.refl _ (co v i)).mul ((Cg.mod _ _).trans (yc.pow j))).trans (Cg.of_eq ?_)
      rw [Int.mul_pow, ← Int.pow_mul, ← Int.pow_mul, Nat.mul_comm i j]
      grind))
    refine Ev.mks (K1 + K2 + K3 + K4) fun K hK => ?_
    rw [attestorref04_Coefficients.l1, if_pos (Int.ofNat_lt.2 hii), k1 K (by omega), Option.bind_some, k2 K (by omega), Option.bind_some, if_pos (Int.natCast_nonneg _), wu64 (by omega) (by omega), k3 K (by omega), Option.bind_some, rd_nat, r_Mul h (U.co hu i).1 (h.mod _).1, Option.bind_some, r_Add h x0 (h.mod _).1, Option.bind_some, w64_succ (by omega)]
    exact k4 K (by omega)
theorem rcoefs_l {k : Nat} (hk : k ≤ 10) (hg : (k : Int) ≤ gr f) {s : Int} (hs : 0 ≤ s) (h0 : s % p ≠ 0) {v : List Int} (hv : v.length = 2 ^ k) (hu : UL v) {C : List Int} (hC : C = cofs p (inv p (wr f p k)) (inv p ((2 ^ k : Nat) : Int)) (inv p s) v (2 ^ k)) : ∀ (d j : Nat), j + d = 2 ^ k →
    Ev (fun K => attestorref04_Coefficients.l0 K f s v k (C.take j) j) (C, 0) := by
  have h2 := pow10 hk
  have lC : C.length = 2 ^ k := by rw [hC, cofs_length]
  intro d
  induction d with
  | zero =>
    intro j hj
    refine Ev.mks 0 fun K _ => ?_
    rw [attestorref04_Coefficients.l0, if_neg (by omega), List.take_of_length_le (by omega)]
  | succ d ih =>
    intro j hj
    have e2 : C.take j ++ [co C j] = C.take (j + 1) := by
      rw [co_lt (by omega)]
      exact List.take_append_getElem (by omega)
    have key := rcoefs_in h hk hg hs h0 hv hu (j := j) (by omega) (acc := C.take j) (by rw [List.length_take]; omega) (R := (C, 0)) (by rw [← hC, e2]; exact ih (j + 1) (by omega)) (2 ^ k) 0 (by omega) 0 (Int.le_refl _) (Cg.of_eq (by simp [ev]))
    refine Ev.succ (fun K => ?_) key
    rw [attestorref04_Coefficients.l0, if_pos (by omega)]
    rfl
theorem rCoefs_zero {s : Int} (hs : 0 ≤ s) (h0 : s % p = 0) (v : List Int) : Ev (fun K => attestorref04_Coefficients.f K f s v) ([], 1) := Ev.mks 0 fun K _ => by
  rw [attestorref04_Coefficients.f, r_Valid h, Option.bind_some, if_pos rfl, r_Reduce h hs, Option.bind_some, attestorref04_Coefficients.j0, if_pos (beq_iff_eq.2 h0)]
theorem rCoefs_range {s : Int} (hs : 0 ≤ s) (h0 : s % p ≠ 0) {v : List Int} {x : Int} (he : Ev (fun K => attestorref04_Bits.f K (v.length : Int)) x) (hx : x < 0 ∨ x > gr f) : Ev (fun K => attestorref04_Coefficients.f K f s v) ([], 2) := by
  obtain ⟨K1, k1⟩ := Ev.get he
  refine Ev.mk (K1 + 2) fun K hK => ?_
  obtain ⟨K, rfl⟩ : ∃ K', K = K' + 1 + 1 := ⟨K - 2, by omega⟩
  rw [attestorref04_Coefficients.f, r_Valid h, Option.bind_some, if_pos rfl, r_Reduce h hs, Option.bind_some, bz h0, attestorref04_Coefficients.j0, if_neg (by decide), k1 (K + 1) (by omega), Option.bind_some]
  by_cases q : x < 0
  · rw [if_pos q, attestorref04_Coefficients.j1, if_pos rfl]
  · rw [if_neg q, r_gr, Option.bind_some, decide_eq_true (by omega), attestorref04_Coefficients.j1, if_pos rfl]
theorem r_Coefs {k : Nat} (hk : k ≤ 10) (hg : (k : Int) ≤ gr f) {s : Int} (hs : 0 ≤ s) (h0 : s % p ≠ 0) {v : List Int} (hv : v.length = 2 ^ k) (hu : UL v) :
    Ev (fun K => attestorref04_Coefficients.f K f s v) (cofs p (inv p (wr f p k)) (inv p ((2 ^ k : Nat) : Int)) (inv p s) v (2 ^ k), 0) := by
  obtain ⟨K1, k1⟩ := Ev.get (r_Bits hk hv)
  obtain ⟨K2, k2⟩ := Ev.get (rcoefs_l h hk hg hs h0 hv hu rfl (2 ^ k) 0 (by omega))
  refine Ev.mk (K1 + K2 + 2) fun K hK => ?_
  obtain ⟨K, rfl⟩ : ∃ K', K = K' + 1 + 1 := ⟨K - 2, by omega⟩
  rw [attestorref04_Coefficients.f, r_Valid h, Option.bind_some, if_pos rfl, r_Reduce h hs, Option.bind_some, bz h0, attestorref04_Coefficients.j0, if_neg (by decide), k1 (K + 1) (by omega), Option.bind_some, if_neg (by omega), r_gr, Option.bind_some, decide_eq_false (by omega), attestorref04_Coefficients.j1, if_neg (by decide)]
  exact k2 K (by omega)
/-! ### Widen -/
theorem rWiden_range {v : List Int} {b x : Int} (he : Ev (fun K => attestorref04_Bits.f K (v.length : Int)) x) (hx : -100 ≤ x ∧ x ≤ 100) (hb : x < 0 ∨ b < 0 ∨ b > gr f - x) : Ev (fun K => attestorref04_Widen.f K f v b) ([], 2) := by
  have hb2 := gr_le f
  obtain ⟨K1, k1⟩ := Ev.get he
  refine Ev.mk (K1 + 1) fun K hK => ?_
  obtain ⟨K, rfl⟩ : ∃ K', K = K' + 1 := ⟨K - 1, by omega⟩
  rw [attestorref04_Widen.f, r_Valid h, Option.bind_some, if_pos rfl, k1 (K + 1) (by omega), Option.bind_some]
  by_cases q : x < 0
  · rw [if_pos q, attestorref04_Widen.j0, if_pos rfl]
  · rw [if_neg q]
    by_cases q2 : b < 0
    · rw [if_pos q2, attestorref04_Widen.j0, if_pos rfl]
    · rw [if_neg q2, r_gr, Option.bind_some]
      by_cases q3 : b > gr f
      · rw [if_pos q3, attestorref04_Widen.j0, if_pos rfl]
      · rw [if_neg q3, Option.bind_some, w64 (by omega) (by omega), decide_eq_true (by omega), attestorref04_Widen.j0, if_pos rfl]
theorem r_Widen {k b : Nat} (hk : k + b ≤ 10) (hg : ((k + b : Nat) : Int) ≤ gr f) {v : List Int} (hv : v.length = 2 ^ k) (hu : UL v) :
    Ev (fun K => attestorref04_Widen.f K f v b) (vals p (wr f p (k + b)) (shf (gOf f) (cofs p (inv p (wr f p k)) (inv p ((2 ^ k : Nat) : Int)) (inv p 1) v (2 ^ k))) (2 ^ (k + b)), 0) := by
  have hb := gr_le f
  have h2 := pow10 (k := k) (by omega)
  have h3 : 2 ^ k ≤ 2 ^ (k + b) := Nat.pow_le_pow_right (by omega) (by omega)
  have lc := cofs_length p (inv p (wr f p k)) (inv p ((2 ^ k : Nat) : Int)) (inv p 1) v (2 ^ k)
  obtain ⟨K1, k1⟩ := Ev.get (r_Bits (k := k) (by omega) hv)
  obtain ⟨K2, k2⟩ := Ev.get (r_Coefs h (k := k) (by omega) (by omega) (s := 1) (by omega) (one_unit h) hv hu)
  obtain ⟨K3, k3⟩ := Ev.get (r_Values h (k := k + b) hk hg (s := gOf f) (gOf_nn f) (gOf_unit h) (l := cofs p (inv p (wr f p k)) (inv p ((2 ^ k : Nat) : Int)) (inv p 1) v (2 ^ k)) (by omega) (cofs_UL h _ _ _ _ _) (by
    have := nrm_length_le p (cofs p (inv p (wr f p k)) (inv p ((2 ^ k : Nat) : Int)) (inv p 1) v (2 ^ k))
    omega))
  obtain ⟨K4, k4⟩ := Ev.get (r_Gen h)
  refine Ev.mk (K1 + K2 + K3 + K4 + 1) fun K hK => ?_
  obtain ⟨K, rfl⟩ : ∃ K', K = K' + 1 := ⟨K - 1, by omega⟩
  rw [attestorref04_Widen.f, r_Valid h, Option.bind_some, if_pos rfl, k1 (K + 1) (by omega), Option.bind_some, if_neg (by omega), if_neg (by omega), r_gr, Option.bind_some, if_neg (by omega), Option.bind_some, w64 (by omega) (by omega), decide_eq_false (by omega), attestorref04_Widen.j0, if_neg (by decide), k2 K (by omega), Option.bind_some, k4 K (by omega), Option.bind_some, w64 (by omega) (by omega), show (k : Int) + (b : Int) = ((k + b : Nat) : Int) by omega, k3 K (by omega), Option.bind_some]
end good
end Go.Proofs.YtdjjdlkglinlgaaDoor.Pure

/- What the reference's Values, Coefficients and Widen answer. -/
import Derived.Test.YtdjjdlkglinlgaaDoorSpecV
import Derived.Test.YtdjjdlkglinlgaaDoorSpecR
import Derived.Test.YtdjjdlkglinlgaaDoorQ1
import Derived.Test.YtdjjdlkglinlgaaDoorQ5
import Derived.Test.YtdjjdlkglinlgaaDoorQ7
namespace Go.Proofs.YtdjjdlkglinlgaaDoor.Pure
open Go.RowKit Go.Proofs.YtdjjdlkglinlgaaDoor.Q Go.Proofs.YtdjjdlkglinlgaaDoor.Num Go.Proofs.YtdjjdlkglinlgaaDoor.Pol Go.Proofs.YtdjjdlkglinlgaaDoorW.PrintWords Go.Proofs.YtdjjdlkglinlgaaDoorW.PrintLast Go.Proofs.YtdjjdlkglinlgaaDoorW.PrintMore

theorem r_Twos (f : Int) : attestorref01_Twos.f f = some (tOf f) := by
  unfold attestorref01_Twos.f tOf
  by_cases h0 : f = 0
  · rw [if_pos h0, if_pos h0]
  · by_cases h1 : f = 1
    · rw [if_neg h0, if_neg h0, if_pos h1, if_pos h1]
    · by_cases h2 : f = 2
      · rw [if_neg h0, if_neg h0, if_neg h1, if_neg h1, if_pos h2, if_pos h2]
      · by_cases h3 : f = 3
        · rw [if_neg h0, if_neg h0, if_neg h1, if_neg h1, if_neg h2, if_neg h2, if_pos h3, if_pos h3]
        · rw [if_neg h0, if_neg h0, if_neg h1, if_neg h1, if_neg h2, if_neg h2, if_neg h3, if_neg h3]
theorem r_gr (f : Int) : attestorref04_Greatest.f f = some (gr f) := by rw [attestorref04_Greatest.f, r_Twos, Option.bind_some]; rfl
theorem rshl_tab : ((List.range 31).all fun k => shl .i64 1 (IntKind.u64.wrap ((k : Nat) : Int)) == ((2 ^ k : Nat) : Int)) = true := by decide +kernel
/-! ### The exponent of a power of two -/
theorem bz {p : Nat} {s : Int} (h0 : s % p ≠ 0) : (s % (p : Int) == 0) = false := beq_eq_false_iff_ne.2 h0
theorem rs_shl {k : Nat} (hk : k ≤ 30) : shl .i64 1 (IntKind.u64.wrap (k : Int)) = ((2 ^ k : Nat) : Int) := beq_iff_eq.1 (List.all_eq_true.1 rshl_tab k (List.mem_range.2 (by omega)))
section bad
variable {f : Int} (h : f < 0 ∨ 4 ≤ f)
include h
theorem br_Values (k s : Int) (l : List Int) : Ev (fun K => attestorref04_Values.f K f k s l) ([], 1) := Ev.mks 0 fun K _ => by
  rw [attestorref04_Values.f, br_Valid h, Option.bind_some, if_neg (by decide), attestorref04_Values.j0, if_pos rfl]
end bad
section good
variable {f : Int} {p : Nat} (h : FP f p)
include h
theorem r_Gen : Ev (fun K => attestorref01_Generator.f K f) (gOf f) := by
  have h0 := h.lo
  have h1 := h.hi
  have : f = 0 ∨ f = 1 ∨ f = 2 ∨ f = 3 := by omega
  refine Ev.mks 0 fun K _ => ?_
  rcases this with rfl | rfl | rfl | rfl <;> rfl
theorem rroot_l {k : Nat} (hk : (k : Int) ≤ tOf f) : ∀ (d i : Nat), i + d = k → Ev (fun K => attestorref01_Root.l0 K f k (((p - 1) / 2 ^ i : Nat) : Int) i) (wr f p k) := by
  have hl := h.lei
  have ht : tOf f ≤ 23 := by unfold tOf; (repeat' split) <;> omega
  have hb : ∀ i, (p - 1) / 2 ^ i ≤ 1000000000 := fun i => by have := Nat.div_le_self (p - 1) (2 ^ i); omega
  intro d
  induction d with
  | zero =>
    intro i hi
    obtain rfl : i = k := by omega
    obtain ⟨K1, k1⟩ := Ev.get (r_Gen h)
    obtain ⟨K2, k2⟩ := Ev.get (r_Pow h (gOf_nn f) ((p - 1) / 2 ^ i) ((p - 1) / 2 ^ i) (Nat.le_refl _) (by have := hb i; omega))
    refine Ev.mks (K1 + K2) fun K hK => ?_
    rw [attestorref01_Root.l0, if_neg (by omega), k1 K (by omega), Option.bind_some, k2 K (by omega), Option.bind_some]
    rfl
  | succ d ih =>
    intro i hi
    have e : Int.tdiv (((p - 1) / 2 ^ i : Nat) : Int) 2 = (((p - 1) / 2 ^ (i + 1) : Nat) : Int) := by
      rw [Int.tdiv_eq_ediv_of_nonneg (Int.natCast_nonneg _), Nat.pow_succ, ← Nat.div_div_eq_div_mul]
      omega
    refine Ev.succ (fun K => ?_) (ih (i + 1) (by omega))
    rw [attestorref01_Root.l0, if_pos (by omega), e, wu64 (Int.natCast_nonneg _) (by have := hb (i + 1); omega), w64_succ (by omega)]
theorem r_Root {k : Nat} (hk : (k : Int) ≤ tOf f) : Ev (fun K => attestorref01_Root.f K f k) (wr f p k) := by
  have hl := h.lei
  have hp := h.pos
  obtain ⟨K1, k1⟩ := Ev.get (rroot_l h hk k 0 (by omega))
  rw [Nat.pow_zero, Nat.div_one] at k1
  refine Ev.mk (K1 + 1) fun K hK => ?_
  obtain ⟨K, rfl⟩ : ∃ K', K = K' + 1 := ⟨K - 1, by omega⟩
  rw [attestorref01_Root.f, r_Valid h, Option.bind_some, if_pos rfl, if_neg (by omega), r_Twos, Option.bind_some, decide_eq_false (by omega), attestorref01_Root.j0, if_neg (by decide), h.eqr, Option.bind_some, wu64 (by omega) (by omega), show (p : Int) - 1 = ((p - 1 : Nat) : Int) by omega]
  exact k1 K (by omega)
theorem r_Point {k : Nat} (hk : (k : Int) ≤ tOf f) {s : Int} (hs : 0 ≤ s) {i : Nat} (hi : i < 1000000000) : Ev (fun K => attestorref04_Point.f K f k s i) (s * (wr f p k ^ i % p) % p) := by
  obtain ⟨K1, k1⟩ := Ev.get (r_Root h hk)
  obtain ⟨K2, k2⟩ := Ev.get (r_Pow h (wr_nn h k) i i (Nat.le_refl _) (by omega))
  refine Ev.mk (K1 + K2) fun K hK => ?_
  rw [attestorref04_Point.f, k1 K (by omega), Option.bind_some, wu64 (by omega) (by omega), k2 K (by omega), Option.bind_some, r_Mul h hs (h.mod _).1, Option.bind_some]
theorem rValues_zero {s : Int} (hs : 0 ≤ s) (h0 : s % p = 0) (k : Int) (l : List Int) : Ev (fun K => attestorref04_Values.f K f k s l) ([], 1) := Ev.mks 0 fun K _ => by
  rw [attestorref04_Values.f, r_Valid h, Option.bind_some, if_pos rfl, r_Reduce h hs, Option.bind_some, attestorref04_Values.j0, if_pos (beq_iff_eq.2 h0)]
theorem rValues_range {s : Int} (hs : 0 ≤ s) (h0 : s % p ≠ 0) {k : Int} (hk : k < 0 ∨ k > gr f) (l : List Int) : Ev (fun K => attestorref04_Values.f K f k s l) ([], 2) := Ev.mk 2 fun K hK => by
  obtain ⟨K, rfl⟩ : ∃ K', K = K' + 1 + 1 := ⟨K - 2, by omega⟩
  rw [attestorref04_Values.f, r_Valid h, Option.bind_some, if_pos rfl, r_Reduce h hs, Option.bind_some, bz h0, attestorref04_Values.j0, if_neg (by decide)]
  by_cases q : k < 0
  · rw [if_pos q, attestorref04_Values.j1, if_pos rfl]
  · rw [if_neg q, r_gr, Option.bind_some, decide_eq_true (by omega), attestorref04_Values.j1, if_pos rfl]
theorem rValues_long {k : Nat} (hg : (k : Int) ≤ gr f) {s : Int} (hs : 0 ≤ s) (h0 : s % p ≠ 0) {l : List Int} (hl : l.length ≤ 1000000) (hu : UL l) (hn : 2 ^ k < (nrm p l).length) : Ev (fun K => attestorref04_Values.f K f k s l) ([], 3) := by
  have hb := gr_le f
  obtain ⟨K1, k1⟩ := Ev.get (r_Normal h.o hl hu)
  refine Ev.mk (K1 + 2) fun K hK => ?_
  obtain ⟨K, rfl⟩ : ∃ K', K = K' + 1 + 1 := ⟨K - 2, by omega⟩
  rw [attestorref04_Values.f, r_Valid h, Option.bind_some, if_pos rfl, r_Reduce h hs, Option.bind_some, bz h0, attestorref04_Values.j0, if_neg (by decide), if_neg (by omega), r_gr, Option.bind_some, decide_eq_false (by omega), attestorref04_Values.j1, if_neg (by decide), k1 K (by omega), Option.bind_some, rs_shl (by omega), wu64 (by omega) (by omega), if_pos (Int.natCast_nonneg _), if_pos (Int.ofNat_lt.2 hn)]
theorem rvalues_l {k : Nat} (hk : k ≤ 10) (hg : (k : Int) ≤ gr f) {s : Int} (hs : 0 ≤ s) {l : List Int} (hl : l.length ≤ 1000000) (hu : UL l) : ∀ (d i : Nat), i + d = 2 ^ k →
    Ev (fun K => attestorref04_Values.l0 K f k s l ((2 ^ k : Nat) : Int) ((vals p (wr f p k) (shf s l) (2 ^ k)).take i) i) (vals p (wr f p k) (shf s l) (2 ^ k), 0) := by
  have hb := gr_le f
  have h2 := pow10 hk
  intro d
  induction d with
  | zero =>
    intro i hi
    refine Ev.mks 0 fun K _ => ?_
    rw [attestorref04_Values.l0, if_neg (by omega), List.take_of_length_le (by rw [vals_length]; omega)]
  | succ d ih =>
    intro i hi
    obtain ⟨K1, k1⟩ := Ev.get (r_Point h (k := k) (by omega) hs (i := i) (by omega))
    obtain ⟨K2, k2⟩ := Ev.get (r_Eval h.o hl hu (x := s * (wr f p k ^ i % p) % p) (h.mod _).1)
    obtain ⟨K3, k3⟩ := Ev.get (ih (i + 1) (by omega))
    have e : ev l (s * (wr f p k ^ i % p) % p) % p = co (vals p (wr f p k) (shf s l) (2 ^ k)) i := by
      rw [co_vals (by omega), ev_shf]
      exact Cg.mod_eq (ev_arg ((Cg.mod _ _).trans ((Cg.refl _ s).mul (Cg.mod _ _))) l)
    refine Ev.mks (K1 + K2 + K3) fun K hK => ?_
    rw [attestorref04_Values.l0, if_pos (Int.ofNat_lt.2 (by omega)), k1 K (by omega), Option.bind_some, k2 K (by omega), Option.bind_some, if_pos (by rw [List.length_take, vals_length]; omega), e, w64_succ (by omega)]
    have e2 : (vals p (wr f p k) (shf s l) (2 ^ k)).take i ++ [co (vals p (wr f p k) (shf s l) (2 ^ k)) i] = (vals p (wr f p k) (shf s l) (2 ^ k)).take (i + 1) := by
      rw [co_lt (by rw [vals_length]; omega)]
      exact List.take_append_getElem (by rw [vals_length]; omega)
    rw [e2]
    exact k3 K (by omega)
theorem r_Values {k : Nat} (hk : k ≤ 10) (hg : (k : Int) ≤ gr f) {s : Int} (hs : 0 ≤ s) (h0 : s % p ≠ 0) {l : List Int} (hl : l.length ≤ 1000000) (hu : UL l) (hn : (nrm p l).length ≤ 2 ^ k) :
    Ev (fun K => attestorref04_Values.f K f k s l) (vals p (wr f p k) (shf s l) (2 ^ k), 0) := by
  have hb := gr_le f
  have h1 := nrm_length_le p l
  obtain ⟨K1, k1⟩ := Ev.get (r_Normal h.o hl hu)
  obtain ⟨K2, k2⟩ := Ev.get (rvalues_l h hk hg hs (l := nrm p l) (by omega) (nrm_UL h.o l) (2 ^ k) 0 (by omega))
  refine Ev.mk (K1 + K2 + 2) fun K hK => ?_
  obtain ⟨K, rfl⟩ : ∃ K', K = K' + 1 + 1 := ⟨K - 2, by omega⟩
  have lt : ¬ (((nrm p l).length : Int) > ((2 ^ k : Nat) : Int)) := by have := Int.ofNat_le.2 hn; omega
  rw [attestorref04_Values.f, r_Valid h, Option.bind_some, if_pos rfl, r_Reduce h hs, Option.bind_some, bz h0, attestorref04_Values.j0, if_neg (by decide), if_neg (by omega), r_gr, Option.bind_some, decide_eq_false (by omega), attestorref04_Values.j1, if_neg (by decide), k1 K (by omega), Option.bind_some, rs_shl (by omega), wu64 (by omega) (by omega), if_pos (Int.natCast_nonneg _), if_neg lt]
  have e := vals_congr (w := wr f p k) (shf_eqp s (nrm_eqp p l)) (2 ^ k)
  rw [e] at k2
  exact k2 K (by omega)
/-! ### Coefficients -/
/-! ### Widen -/
end good
end Go.Proofs.YtdjjdlkglinlgaaDoor.Pure

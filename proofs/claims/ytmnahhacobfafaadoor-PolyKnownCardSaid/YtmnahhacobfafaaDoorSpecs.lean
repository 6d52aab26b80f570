/- What the functions of the program and of the reference answer: plain arithmetic, no memory. -/
import Derived.Test.YtmnahhacobfafaaDoorPol
import Derived.Test.YtmnahhacobfafaaDoorQ0
import Derived.Test.YtmnahhacobfafaaDoorQ1
import Derived.Test.YtmnahhacobfafaaDoorQ2
import Derived.KernelRfl
namespace Go.Proofs.YtmnahhacobfafaaDoor.Pure
open Go.RowKit Go.Proofs.YtmnahhacobfafaaDoor.Q Go.Proofs.YtmnahhacobfafaaDoor.Num Go.Proofs.YtmnahhacobfafaaDoor.Pol Go.Proofs.YtmnahhacobfafaaDoorW.PrintWords Go.Proofs.YtmnahhacobfafaaDoorW.PrintLast Go.Proofs.YtmnahhacobfafaaDoorW.PrintMore

def Ev {α : Type} (F : Nat → Option α) (v : α) : Prop := ∃ K, ∀ k, K ≤ k → F k = some v
theorem Ev.all {α : Type} {F : Nat → Option α} {v : α} (h : ∀ k, F k = some v) : Ev F v := ⟨0, fun k _ => h k⟩
theorem Ev.mk {α : Type} {F : Nat → Option α} {v : α} (K : Nat) (h : ∀ k, K ≤ k → F k = some v) : Ev F v := ⟨K, h⟩
theorem Ev.mks {α : Type} {F : Nat → Option α} {v : α} (K : Nat) (h : ∀ k, K ≤ k → F (k + 1) = some v) : Ev F v := ⟨K + 1, fun k hk => by
  obtain ⟨k, rfl⟩ : ∃ k', k = k' + 1 := ⟨k - 1, by omega⟩
  exact h k (by omega)⟩
theorem Ev.get {α : Type} {F : Nat → Option α} {v : α} (h : Ev F v) : ∃ K, ∀ k, K ≤ k → F k = some v := h
theorem Ev.ex {α : Type} {F : Nat → Option α} {v : α} (h : Ev F v) : ∃ k, F k = some v := let ⟨K, hK⟩ := h; ⟨K, hK K (Nat.le_refl _)⟩
theorem Ev.succ {α : Type} {F G : Nat → Option α} {v : α} (h : ∀ k, G (k + 1) = F k) (hF : Ev F v) : Ev G v := by
  obtain ⟨K, hK⟩ := hF
  refine ⟨K + 1, fun k hk => ?_⟩
  obtain ⟨j, rfl⟩ : ∃ j, k = j + 1 := ⟨k - 1, by omega⟩
  rw [h]
  exact hK j (by omega)
theorem Ev.congr {α : Type} {F G : Nat → Option α} {v : α} (h : ∀ k, G k = F k) (hF : Ev F v) : Ev G v := by
  obtain ⟨K, hK⟩ := hF
  exact ⟨K, fun k hk => (h k).trans (hK k hk)⟩
theorem Ev.bind {α β : Type} {F : Nat → Option α} {G : Nat → α → Option β} {a : α} {b : β} (hF : Ev F a) (hG : Ev (fun k => G k a) b) : Ev (fun k => (F k).bind (G k)) b := by
  obtain ⟨K, hK⟩ := hF
  obtain ⟨L, hL⟩ := hG
  refine ⟨max K L, fun k hk => ?_⟩
  show (F k).bind (G k) = some b
  rw [hK k (by omega)]
  exact hL k (by omega)
theorem Ev.of_mono {α : Type} {F : Nat → Option α} {v : α} (hm : ∀ k, LeO (F k) (F (k + 1))) {K : Nat} (h : F K = some v) : Ev F v := by
  refine ⟨K, fun k hk => ?_⟩
  obtain ⟨d, rfl⟩ : ∃ d, k = K + d := ⟨k - K, by omega⟩
  clear hk
  induction d with
  | zero => exact h
  | succ d ih => exact hm _ _ ih
theorem Ev.uniq {α : Type} {F : Nat → Option α} {v w : α} (h : Ev F v) (g : Ev F w) : v = w := by
  obtain ⟨K, hK⟩ := h
  obtain ⟨L, hL⟩ := g
  exact Option.some.inj ((hK (max K L) (by omega)).symm.trans (hL (max K L) (by omega)))

def U (x : Int) : Prop := 0 ≤ x ∧ x < 18446744073709551616
def UL (l : List Int) : Prop := ∀ c ∈ l, U c
theorem U.zero : U 0 := by unfold U; omega
theorem U.co {l : List Int} (h : UL l) (i : Nat) : U (co l i) := by
  by_cases hi : i < l.length
  · exact h _ (co_mem hi)
  · rw [co_over (by omega)]; exact U.zero
theorem UL.nil : UL [] := fun _ h => by simp at h
theorem UL.cons {c : Int} {l : List Int} (h : U c) (g : UL l) : UL (c :: l) := fun x hx => (List.mem_cons.1 hx).elim (fun e => e ▸ h) (g x)
theorem UL.append {a b : List Int} (h : UL a) (g : UL b) : UL (a ++ b) := fun x hx => (List.mem_append.1 hx).elim (h x) (g x)
theorem UL.take {a : List Int} (h : UL a) (n : Nat) : UL (a.take n) := fun _ hx => h _ (List.mem_of_mem_take hx)
theorem UL.replicate (n : Nat) : UL (List.replicate n 0) := fun x hx => by rw [(List.mem_replicate.1 hx).2]; exact U.zero
theorem UL.set {a : List Int} (h : UL a) {x : Int} (hx : U x) (i : Nat) : UL (a.set i x) := fun y hy => by
  rcases List.mem_or_eq_of_mem_set hy with hy | rfl
  · exact h _ hy
  · exact hx
theorem w64 {n : Int} (h1 : -9223372036854775808 ≤ n) (h2 : n ≤ 9223372036854775807) : wrap64 n = n := by unfold wrap64; omega
theorem w64_succ {i : Nat} (h : i < 9223372036854775807) : wrap64 ((i : Int) + 1) = ((i + 1 : Nat) : Int) := by rw [w64 (by omega) (by omega)]; omega
theorem wu64 {n : Int} (h1 : 0 ≤ n) (h2 : n < 18446744073709551616) : IntKind.u64.wrap n = n := by rw [IntKind.wrap_u64]; omega
theorem rd_nat (l : List Int) (i : Nat) : rd l (i : Int) = co l i := by simp [rd, co]
theorem tmod_nn {a : Int} (h : 0 ≤ a) (p : Int) : Int.tmod a p = a % p := Int.tmod_eq_emod_of_nonneg h
theorem co_set {l : List Int} {i : Nat} (h : i < l.length) (x : Int) (j : Nat) : co (l.set i x) j = if j = i then x else co l j := by
  unfold co
  rw [List.getD_eq_getElem?_getD, List.getD_eq_getElem?_getD, List.getElem?_set]
  by_cases e : i = j
  · subst e; simp [h]
  · simp [e, Ne.symm e]
theorem co_set_same {l : List Int} {i : Nat} (h : i < l.length) (x : Int) : co (l.set i x) i = x := by rw [co_set h]; simp
theorem co_replicate (n i : Nat) : co (List.replicate n 0) i = 0 := by
  by_cases h : i < n
  · rw [co_lt (by simpa using h)]; simp
  · exact co_over (by simpa using h)
theorem co_append (a b : List Int) (i : Nat) : co (a ++ b) i = if i < a.length then co a i else co b (i - a.length) := by
  unfold co
  rw [List.getD_eq_getElem?_getD, List.getElem?_append]
  split <;> simp
theorem ext_co {a b : List Int} (hl : a.length = b.length) (h : ∀ i, i < a.length → co a i = co b i) : a = b := by
  refine List.ext_getElem hl fun i h1 h2 => ?_
  have := h i h1
  rwa [co_lt h1, co_lt h2] at this
end Go.Proofs.YtmnahhacobfafaaDoor.Pure
namespace Go.Proofs.YtmnahhacobfafaaDoor.Pure
open Go.RowKit Go.Proofs.YtmnahhacobfafaaDoor.Q Go.Proofs.YtmnahhacobfafaaDoor.Num Go.Proofs.YtmnahhacobfafaaDoor.Pol Go.Proofs.YtmnahhacobfafaaDoorW.PrintWords Go.Proofs.YtmnahhacobfafaaDoorW.PrintLast Go.Proofs.YtmnahhacobfafaaDoorW.PrintMore

structure FP (f : Int) (p : Nat) : Prop where
  lo : 0 ≤ f
  hi : f < 4
  eq : pOf f = p
  pr : Pr p
  le : p ≤ 998244353
theorem fp_of {f : Int} (h0 : 0 ≤ f) (h1 : f < 4) : ∃ p, FP f p := by
  have : f = 0 ∨ f = 1 ∨ f = 2 ∨ f = 3 := by omega
  rcases this with rfl | rfl | rfl | rfl
  · exact ⟨97, by omega, by omega, rfl, pr97, by omega⟩
  · exact ⟨257, by omega, by omega, rfl, pr257, by omega⟩
  · exact ⟨12289, by omega, by omega, rfl, pr12289, by omega⟩
  · exact ⟨998244353, by omega, by omega, rfl, pr998244353, by omega⟩
theorem FP.pos {f : Int} {p : Nat} (h : FP f p) : (0 : Int) < p := h.pr.pos
theorem FP.one {f : Int} {p : Nat} (h : FP f p) : (1 : Int) < p := by have := h.pr.two; omega
theorem FP.lei {f : Int} {p : Nat} (h : FP f p) : (p : Int) ≤ 998244353 := by have := h.le; omega
theorem FP.mod {f : Int} {p : Nat} (h : FP f p) (a : Int) : 0 ≤ a % p ∧ a % p < p := ⟨mod_nonneg h.pos a, mod_lt h.pos a⟩
theorem FP.U {f : Int} {p : Nat} (h : FP f p) (a : Int) : U (a % p) := by have := h.mod a; have := h.lei; unfold Pure.U; omega
section good
variable {f : Int} {p : Nat} (h : FP f p)
include h
theorem s_Valid : field_Valid.f f = some true := by
  unfold field_Valid.f
  rw [if_pos h.lo, decide_eq_true h.hi]
theorem s_P : field_P.f f = some (p : Int) := by simp [field_P.f, h.eq]
theorem s_Reduce {x : Int} (hx : 0 ≤ x) : field_Reduce.f f x = some (x % p) := by
  have := h.pos
  simp only [field_Reduce.f, s_Valid h, s_P h, Option.bind_some, if_true]
  rw [if_neg (by omega), tmod_nn hx]
theorem s_Add {a b : Int} (ha : 0 ≤ a) (hb : 0 ≤ b) : field_Add.f f a b = some ((a + b) % p) := by
  have hp := h.pos
  have ma := h.mod a
  have mb := h.mod b
  have hl := h.lei
  simp only [field_Add.f, s_P h, Option.bind_some]
  rw [if_neg (by omega), tmod_nn ha, tmod_nn hb, wu64 (by omega) (by omega)]
  have e : (a + b) % p = (a % p + b % p) % p := by rw [← Int.add_emod]
  by_cases hc : a % p + b % p ≥ p
  · rw [if_pos hc, wu64 (by omega) (by omega), e]
    have : (a % p + b % p) % p = (a % p + b % p - p) % p := by rw [← Int.sub_emod_right]
    rw [this]
    exact congrArg some (Int.emod_eq_of_lt (by omega) (by omega)).symm
  · rw [if_neg hc, e]
    exact congrArg some (Int.emod_eq_of_lt (by omega) (by omega)).symm
theorem s_Mul {a b : Int} (ha : 0 ≤ a) (hb : 0 ≤ b) : field_Mul.f f a b = some ((a * b) % p) := by
  have hp := h.pos
  have ma := h.mod a
  have mb := h.mod b
  have hl := h.lei
  have h1 : 0 ≤ (a % p) * (b % p) := Int.mul_nonneg ma.1 mb.1
  have h2 : (a % p) * (b % p) ≤ 998244353 * 998244353 := Int.mul_le_mul (by omega) (by omega) mb.1 (by omega)
  simp only [field_Mul.f, s_P h, Option.bind_some]
  rw [if_neg (by omega), tmod_nn ha, tmod_nn hb, wu64 h1 (by omega), tmod_nn h1]
  congr 1
  exact Cg.mod_eq ((Cg.mod p a).mul (Cg.mod p b))
end good

section good2
variable {f : Int} {p : Nat} (h : FP f p)
include h
end good2

section bad
variable {f : Int} (h : f < 0 ∨ 4 ≤ f)
include h
theorem b_Valid : field_Valid.f f = some false := by
  unfold field_Valid.f
  rcases h with h | h
  · rw [if_neg (by omega)]
  · rw [if_pos (by omega), decide_eq_false (by omega)]
theorem b_Reduce (x : Int) : field_Reduce.f f x = some 0 := by simp [field_Reduce.f, b_Valid h]
end bad
structure FO (f : Int) (p : Nat) : Prop where
  pos : (0 : Int) < p
  lei : (p : Int) ≤ 998244353
  ok : FP f p ∨ ((f < 0 ∨ 4 ≤ f) ∧ p = 1)
theorem FP.o {f : Int} {p : Nat} (h : FP f p) : FO f p := ⟨h.pos, h.lei, Or.inl h⟩
theorem FO.mod {f : Int} {p : Nat} (h : FO f p) (a : Int) : 0 ≤ a % p ∧ a % p < p := ⟨mod_nonneg h.pos a, mod_lt h.pos a⟩
theorem FO.U {f : Int} {p : Nat} (h : FO f p) (a : Int) : U (a % p) := by have := h.mod a; have := h.lei; unfold Pure.U; omega
theorem mod_one (a : Int) : a % ((1 : Nat) : Int) = 0 := Int.emod_one a
theorem nrm_one_nil (l : List Int) : nrm ((1 : Nat) : Int) l = [] := nrm_eq_nil.2 fun _ => mod_eq_zero.1 (mod_one _)
section any
variable {f : Int} {p : Nat} (h : FO f p)
include h
theorem o_Reduce {x : Int} (hx : 0 ≤ x) : field_Reduce.f f x = some (x % p) := by
  rcases h.ok with g | ⟨g, rfl⟩
  · exact s_Reduce g hx
  · rw [b_Reduce g, mod_one]
end any
end Go.Proofs.YtmnahhacobfafaaDoor.Pure
namespace Go.Proofs.YtmnahhacobfafaaDoor.Pure
open Go.RowKit Go.Proofs.YtmnahhacobfafaaDoor.Q Go.Proofs.YtmnahhacobfafaaDoor.Num Go.Proofs.YtmnahhacobfafaaDoor.Pol Go.Proofs.YtmnahhacobfafaaDoorW.PrintWords Go.Proofs.YtmnahhacobfafaaDoorW.PrintLast Go.Proofs.YtmnahhacobfafaaDoorW.PrintMore

theorem w64_pred {n : Nat} (h : n < 9223372036854775807) : wrap64 (((n + 1 : Nat) : Int) - 1) = (n : Int) := by rw [w64 (by omega) (by omega)]; omega
theorem trim_l0 {l : List Int} (hl : l.length ≤ 1000000) : ∀ n : Nat, n ≤ l.length → (∀ i, n ≤ i → co l i = 0) → Ev (fun k => poly_trim.l0 k l n) (trm l)
  | 0, hn, hz => by
    refine Ev.succ (F := fun _ => some (trm l)) (fun k => ?_) (Ev.all fun _ => rfl)
    rw [poly_trim.l0, if_neg (by omega), if_pos (by omega), if_pos (by omega)]
    exact congrArg some (trm_eq (m := 0) hn hz (fun n h => by omega))
  | n + 1, hn, hz => by
    by_cases h0 : co l n = 0
    · refine Ev.succ (fun k => ?_) (trim_l0 hl n (by omega) (fun i hi => ?_))
      · rw [poly_trim.l0, if_pos (by omega), w64_pred (by omega), if_pos (by omega), if_pos (by omega), rd_nat, if_pos h0]
      · rcases Nat.eq_or_lt_of_le hi with e | e
        · rw [← e]; exact h0
        · exact hz i e
    · refine Ev.succ (F := fun _ => some (trm l)) (fun k => ?_) (Ev.all fun _ => rfl)
      rw [poly_trim.l0, if_pos (by omega), w64_pred (by omega), if_pos (by omega), if_pos (by omega), rd_nat, if_neg h0, if_pos (by omega), if_pos (by omega)]
      refine congrArg some ?_
      rw [Int.toNat_natCast]
      exact trm_eq hn hz (fun m hm => by obtain rfl : m = n := by omega
                                         exact h0)
theorem s_trim {l : List Int} (hl : l.length ≤ 1000000) : Ev (fun k => poly_trim.f k l) (trm l) := trim_l0 hl _ (Nat.le_refl _) (fun _ h => co_over h)

theorem cpyAt_full (l : List Int) : cpyAt (List.replicate l.length 0) 0 l = l := by
  unfold cpyAt splice
  simp
section any
variable {f : Int} {p : Nat} (h : FO f p)
include h
theorem normal_l0 : ∀ (d i : Nat) (x y : List Int), i + d = x.length → x.length ≤ 1000000 → UL x → y.length = x.length → (∀ j, j < x.length → co y j = if i ≤ j then co x j % p else co x j) → Ev (fun k => poly_Normal.l0 k f x (x.length : Int) i) (trm y) := by
  intro d
  induction d with
  | zero =>
    intro i x y hi hl hu hyl hy
    have e : y = x := ext_co hyl fun j hj => by rw [hy j (by omega), if_neg (by omega)]
    subst e
    have key : Ev (fun k => (poly_trim.f k y).bind fun t125 => some t125) (trm y) := (s_trim hl).bind (Ev.all fun _ => rfl)
    refine Ev.succ (fun k => ?_) key
    rw [poly_Normal.l0, if_neg (by omega)]
  | succ d ih =>
    intro i x y hi hl hu hyl hy
    have hx := U.co hu i
    refine Ev.succ (fun k => ?_) (ih (i + 1) (x.set i (co x i % p)) y (by simp; omega) (by simpa using hl) (hu.set (h.U _) i) (by simpa using hyl) (fun j hj => ?_))
    · rw [poly_Normal.l0, if_pos (by omega), if_pos (by omega), if_pos (by omega), rd_nat, o_Reduce h hx.1, Option.bind_some, w64_succ (by omega), Int.toNat_natCast, List.length_set]
    · rw [List.length_set] at hj
      rw [hy j hj, co_set (by omega)]
      by_cases e : j = i
      · subst e; rw [if_pos (by omega), if_neg (by omega), if_pos rfl]
      · rw [if_neg e]
        by_cases e2 : i ≤ j
        · rw [if_pos e2, if_pos (by omega)]
        · rw [if_neg e2, if_neg (by omega)]
theorem s_Normal {l : List Int} (hl : l.length ≤ 1000000) (hu : UL l) : Ev (fun k => poly_Normal.f k f l) (nrm p l) := by
  rcases h.ok with g | ⟨g, rfl⟩
  · have key := normal_l0 h l.length 0 l (l.map (· % (p : Int))) (by omega) hl hu (by simp) (fun j hj => by rw [co_map_mod, if_pos (Nat.zero_le _)])
    refine Ev.congr (fun k => ?_) key
    rw [poly_Normal.f, s_Valid g, Option.bind_some, if_pos rfl, if_pos (by omega), if_pos (by omega), Option.bind_some, Int.toNat_natCast, cpyAt_full, List.length_replicate]
    rfl
  · rw [nrm_one_nil]
    refine Ev.all fun k => ?_
    rw [poly_Normal.f, b_Valid g, Option.bind_some, if_neg (by decide)]
end any
section good
variable {f : Int} {p : Nat} (h : FP f p)
include h
end good
end Go.Proofs.YtmnahhacobfafaaDoor.Pure
namespace Go.Proofs.YtmnahhacobfafaaDoor.Pure
open Go.RowKit Go.Proofs.YtmnahhacobfafaaDoor.Q Go.Proofs.YtmnahhacobfafaaDoor.Num Go.Proofs.YtmnahhacobfafaaDoor.Pol Go.Proofs.YtmnahhacobfafaaDoorW.PrintWords Go.Proofs.YtmnahhacobfafaaDoorW.PrintLast Go.Proofs.YtmnahhacobfafaaDoorW.PrintMore

def sh (n : Nat) (l : List Int) : List Int := List.replicate n 0 ++ l
theorem co_sh (n : Nat) (l : List Int) (t : Nat) : co (sh n l) t = if t < n then 0 else co l (t - n) := by
  rw [sh, co_append, List.length_replicate]
  split
  · exact co_replicate _ _
  · rfl
theorem drop_co (l : List Int) (i : Nat) (h : i < l.length) : l.drop i = co l i :: l.drop (i + 1) := by rw [List.drop_eq_getElem_cons h, co_lt h]
theorem co_sh_term (m : Nat) (c : Int) (b : List Int) (j : Nat) (hj : j < b.length) (t : Nat) : co (sh m (psc c (b.drop j))) t = (if t = m then c * co b j else 0) + co (sh (m + 1) (psc c (b.drop (j + 1)))) t := by
  rw [co_sh, co_sh, drop_co b j hj]
  by_cases e : t = m
  · subst e
    rw [if_neg (by omega), if_pos rfl, if_pos (by omega), Nat.sub_self, co_psc, co_cons_zero]; omega
  · rw [if_neg e]
    by_cases e2 : t < m
    · rw [if_pos e2, if_pos (by omega)]; omega
    · rw [if_neg e2, if_neg (by omega), co_psc, co_psc, show t - m = (t - (m + 1)) + 1 by omega, co_cons_succ]; omega
theorem co_sh_row (a b : List Int) (i : Nat) (hi : i < a.length) (t : Nat) : co (sh i (pmul (a.drop i) b)) t = co (sh i (psc (co a i) b)) t + co (sh (i + 1) (pmul (a.drop (i + 1)) b)) t := by
  rw [co_sh, co_sh, co_sh, drop_co a i hi]
  by_cases e : t < i
  · rw [if_pos e, if_pos e, if_pos (by omega)]; omega
  · rw [if_neg e, if_neg e]
    by_cases e2 : t = i
    · subst e2; rw [if_pos (by omega), Nat.sub_self, co_pmul_zero', co_psc]; omega
    · rw [if_neg (by omega), show t - i = (t - (i + 1)) + 1 by omega, co_pmul_succ, co_psc]

def Rg (p : Int) (l : List Int) : Prop := ∀ i, 0 ≤ co l i ∧ co l i < p
theorem Rg.set {p : Int} {l : List Int} (h : Rg p l) {i : Nat} {x : Int} (hx : 0 ≤ x ∧ x < p) : Rg p (l.set i x) := fun j => by
  by_cases hi : i < l.length
  · rw [co_set hi]
    split
    · exact hx
    · exact h j
  · rw [List.set_eq_of_length_le (by omega)]; exact h j
theorem Rg.zeros {p : Int} (hp : 0 < p) (n : Nat) : Rg p (List.replicate n 0) := fun j => by rw [co_replicate]; omega
theorem Rg.eq {p : Int} {a b : List Int} (ha : Rg p a) (hb : Rg p b) (hl : a.length = b.length) (h : ∀ i, i < a.length → Cg p (co a i) (co b i)) : a = b :=
  ext_co hl fun i hi => (h i hi).uniq (ha i).1 (ha i).2 (hb i).1 (hb i).2
theorem Rg.U {f : Int} {p : Nat} (h : FO f p) {l : List Int} (hr : Rg p l) : UL l := fun c hc => by
  obtain ⟨i, hi, rfl⟩ := List.getElem_of_mem hc
  have := hr i
  rw [co_lt hi] at this
  have := h.lei
  unfold Pure.U; omega
theorem nrm_rg {p : Int} (hp : 0 < p) (l : List Int) : Rg p (nrm p l) := (nrm_nf hp l).rng
theorem pmul_nil_right (p : Int) (a : List Int) {b : List Int} (hb : EqP p b []) : EqP p (pmul a b) [] := fun i => by
  have hz : ∀ (a : List Int) (i : Nat), co (pmul a []) i = 0 := by
    intro a
    induction a with
    | nil => intro i; simp [pmul]
    | cons c a ih => intro i; cases i with
      | zero => rw [co_pmul_zero']; simp
      | succ i => rw [co_pmul_succ, ih]; simp
  have := (hb.pmul_right a) i
  rwa [hz] at this

def Interp (p : Nat) (xs ys R : List Int) : Prop := Deg p R xs.length ∧ ∀ i, i < xs.length → Cg p (ev R (co xs i)) (co ys i)

section good
variable {f : Int} {p : Nat} (h : FP f p)
include h
theorem one_not_zero : ¬ Cg p (1 : Int) 0 := fun c => by
  have := c.mod_eq
  rw [Int.emod_eq_of_lt (by omega) h.one] at this
  simp at this
end good
end Go.Proofs.YtmnahhacobfafaaDoor.Pure
namespace Go.Proofs.YtmnahhacobfafaaDoor.Pure
open Go.RowKit Go.Proofs.YtmnahhacobfafaaDoor.Q Go.Proofs.YtmnahhacobfafaaDoor.Num Go.Proofs.YtmnahhacobfafaaDoor.Pol Go.Proofs.YtmnahhacobfafaaDoorW.PrintWords Go.Proofs.YtmnahhacobfafaaDoorW.PrintLast Go.Proofs.YtmnahhacobfafaaDoorW.PrintMore

section good
variable {f : Int} {p : Nat} (h : FP f p)
include h
theorem mul_l {a b : List Int} (ha : a.length ≤ 1000000) (hb : b.length ≤ 1000000) (ra : Rg p a) (rb : Rg p b) {z : List Int} (rz : Rg p z) (hz : z.length + 1 = a.length + b.length) :
    ∀ (d i : Nat) (x : List Int), i + d = a.length → x.length = z.length → Rg p x → (∀ t, Cg p (co z t) (co x t + co (sh i (pmul (a.drop i) b)) t)) → Ev (fun k => poly_Mul.l0 k f b x a (a.length : Int) i) (z, 0) := by
  intro d
  induction d with
  | zero =>
    intro i x hi hx rx hc
    have e : z = x := rz.eq rx hx.symm fun t _ => by
      have := hc t
      rw [List.drop_of_length_le (by omega)] at this
      simpa [pmul, co_sh] using this
    subst e
    refine Ev.succ (F := fun _ => some (z, 0)) (fun k => ?_) (Ev.all fun _ => rfl)
    rw [poly_Mul.l0, if_neg (by omega)]
  | succ d ih =>
    intro i x hi hx rx hc
    have inner : ∀ (e j : Nat) (x : List Int), j + e = b.length → x.length = z.length → Rg p x → (∀ t, Cg p (co z t) (co x t + (co (sh (i + j) (psc (co a i) (b.drop j))) t + co (sh (i + 1) (pmul (a.drop (i + 1)) b)) t))) →
        Ev (fun k => poly_Mul.l1 k f b x i (co a i) a (a.length : Int) i b (b.length : Int) j) (z, 0) := by
      intro e
      induction e with
      | zero =>
        intro j x hj hx rx hc
        refine Ev.succ (fun k => ?_) (ih (i + 1) x (by omega) hx rx (fun t => ?_))
        · rw [poly_Mul.l1, if_neg (by omega), w64_succ (by omega)]
        · have := hc t
          rw [List.drop_of_length_le (by omega)] at this
          have e0 : co (sh (i + j) (psc (co a i) [])) t = 0 := by rw [co_sh]; split <;> simp [psc]
          rwa [e0, Int.zero_add] at this
      | succ e ihe =>
        intro j x hj hx rx hc
        have hij : i + j < x.length := by omega
        refine Ev.succ (fun k => ?_) (ihe (j + 1) (x.set (i + j) ((co x (i + j) + (co a i * co b j) % p) % p)) (by omega) (by simpa using hx) (rx.set (h.mod _)) (fun t => ?_))
        · have e1 : wrap64 ((i : Int) + (j : Int)) = ((i + j : Nat) : Int) := by rw [w64 (by omega) (by omega)]; omega
          rw [poly_Mul.l1, if_pos (by omega), if_pos (by omega), if_pos (by omega), e1, if_pos (by omega), if_pos (by omega), rd_nat, rd_nat, s_Mul h (ra i).1 (rb j).1, Option.bind_some, s_Add h (rx _).1 (mod_nonneg h.pos _), Option.bind_some, w64_succ (by omega), Int.toNat_natCast]
        · have h1 := hc t
          rw [co_sh_term (i + j) (co a i) b j (by omega) t] at h1
          refine h1.trans ?_
          rw [co_set hij, show i + (j + 1) = i + j + 1 by omega]
          by_cases et : t = i + j
          · subst et
            rw [if_pos rfl, if_pos rfl]
            have c1 : Cg p ((co x (i + j) + co a i * co b j % p) % p) (co x (i + j) + co a i * co b j) := (Cg.mod _ _).trans ((Cg.refl _ _).add (Cg.mod _ _))
            exact (Cg.of_eq (by omega)).trans (c1.symm.add (Cg.refl _ _))
          · rw [if_neg et, if_neg et]; exact Cg.of_eq (by omega)
    by_cases h0 : co a i = 0
    · refine Ev.succ (fun k => ?_) (ih (i + 1) x (by omega) hx rx (fun t => ?_))
      · rw [poly_Mul.l0, if_pos (by omega), if_pos (by omega), if_pos (by omega), rd_nat, if_pos h0, w64_succ (by omega)]
      · have h1 := hc t
        rw [co_sh_row a b i (by omega) t, h0] at h1
        have e0 : co (sh i (psc 0 b)) t = 0 := by rw [co_sh]; split <;> simp [co_psc]
        rwa [e0, Int.zero_add] at h1
    · refine Ev.succ (fun k => ?_) (inner b.length 0 x (by omega) hx rx (fun t => ?_))
      · rw [poly_Mul.l0, if_pos (by omega), if_pos (by omega), if_pos (by omega), rd_nat, if_neg h0]
        rfl
      · have h1 := hc t
        rw [co_sh_row a b i (by omega) t] at h1
        rw [Nat.add_zero, List.drop_zero]
        exact h1
theorem s_MulP {a b : List Int} (ha : a.length ≤ 1000000) (hb : b.length ≤ 1000000) (ua : UL a) (ub : UL b) (hlim : (nrm p a).length + (nrm p b).length ≤ 32769) : Ev (fun k => poly_Mul.f k f a b) (nrm p (pmul a b), 0) := by
  have la := nrm_length_le p a
  have lb := nrm_length_le p b
  have key : Ev (fun k => (if ((nrm p a).length : Int) = 0 then (poly_Mul.j0 k f (nrm p a) (nrm p b) (wrap64 ((wrap64 (((nrm p a).length : Int) + ((nrm p b).length : Int))) - 1)) true) else (poly_Mul.j0 k f (nrm p a) (nrm p b) (wrap64 ((wrap64 (((nrm p a).length : Int) + ((nrm p b).length : Int))) - 1)) (((nrm p b).length : Int) == 0)))) (nrm p (pmul a b), 0) := by
    by_cases ea : (nrm p a).length = 0
    · have : nrm p (pmul a b) = [] := nrm_eq_nil.2 (pmul_zero_left (nrm_eq_nil.1 (List.eq_nil_of_length_eq_zero ea)))
      rw [this]
      refine Ev.succ (F := fun _ => some ([], 0)) (fun k => ?_) (Ev.all fun _ => rfl)
      rw [if_pos (by omega), poly_Mul.j0, if_pos rfl]
    · by_cases eb : (nrm p b).length = 0
      · have : nrm p (pmul a b) = [] := nrm_eq_nil.2 (pmul_nil_right p a (nrm_eq_nil.1 (List.eq_nil_of_length_eq_zero eb)))
        rw [this]
        refine Ev.succ (F := fun _ => some ([], 0)) (fun k => ?_) (Ev.all fun _ => rfl)
        rw [if_neg (by omega), poly_Mul.j0, if_pos (by rw [eb]; rfl)]
      · obtain ⟨m, hm⟩ : ∃ m, (nrm p a).length = m + 1 := ⟨(nrm p a).length - 1, by omega⟩
        obtain ⟨n, hn⟩ : ∃ n, (nrm p b).length = n + 1 := ⟨(nrm p b).length - 1, by omega⟩
        have hz := nrm_pmul_length h.pr hm hn
        have ew : wrap64 (wrap64 (((nrm p a).length : Int) + ((nrm p b).length : Int)) - 1) = ((m + n + 1 : Nat) : Int) := by
          rw [w64 (n := ((nrm p a).length : Int) + ((nrm p b).length : Int)) (by omega) (by omega), w64 (by omega) (by omega)]; omega
        refine Ev.succ (fun k => ?_) (mul_l h (by omega) (by omega) (nrm_rg h.pos a) (nrm_rg h.pos b) (nrm_rg h.pos (pmul a b)) (by omega) (nrm p a).length 0 (List.replicate (m + n + 1) 0) (by omega) (by simp [hz]) (Rg.zeros h.pos _) (fun t => ?_))
        · have ef : (((nrm p b).length : Int) == 0) = false := by simpa using eb
          rw [if_neg (by omega), ew, ef, poly_Mul.j0, if_neg (by simp), if_neg (by omega), if_pos (by omega), if_pos (by omega), Int.toNat_natCast]
          rfl
        · rw [co_replicate, Int.zero_add, co_sh, if_neg (by omega), List.drop_zero, Nat.sub_zero]
          exact (nrm_eqp p _ t).trans (((nrm_eqp p a).pmul (nrm_eqp p b)).symm t)
  have key2 := (s_Normal h.o ha ua).bind (G := fun k t329 => (poly_Normal.f k f b).bind fun t332 => (if (t329.length : Int) = 0 then (poly_Mul.j0 k f t329 t332 (wrap64 ((wrap64 ((t329.length : Int) + (t332.length : Int))) - 1)) true) else (poly_Mul.j0 k f t329 t332 (wrap64 ((wrap64 ((t329.length : Int) + (t332.length : Int))) - 1)) ((t332.length : Int) == 0)))) ((s_Normal h.o hb ub).bind key)
  refine Ev.congr (fun k => ?_) key2
  rw [poly_Mul.f, s_Valid h, Option.bind_some, if_pos rfl]

end good
end Go.Proofs.YtmnahhacobfafaaDoor.Pure
namespace Go.Proofs.YtmnahhacobfafaaDoor.Pure
open Go.RowKit Go.Proofs.YtmnahhacobfafaaDoor.Q Go.Proofs.YtmnahhacobfafaaDoor.Num Go.Proofs.YtmnahhacobfafaaDoor.Pol Go.Proofs.YtmnahhacobfafaaDoorW.PrintWords Go.Proofs.YtmnahhacobfafaaDoorW.PrintLast Go.Proofs.YtmnahhacobfafaaDoorW.PrintMore

theorem lsame_l0 {l : List Int} (hl : l.length ≤ 1000000) : ∀ (d i : Nat), i + d = l.length → Ev (fun k => attestorlaw03_same.l0 k l l i) true := by
  intro d
  induction d with
  | zero =>
    intro i hi
    refine Ev.succ (F := fun _ => some true) (fun k => ?_) (Ev.all fun _ => rfl)
    rw [attestorlaw03_same.l0, if_neg (by omega)]
  | succ d ih =>
    intro i hi
    refine Ev.succ (fun k => ?_) (ih (i + 1) (by omega))
    rw [attestorlaw03_same.l0, if_pos (by omega), if_pos (by omega), if_pos (by omega), if_pos rfl, w64_succ (by omega)]
theorem s_same {l : List Int} (hl : l.length ≤ 1000000) : Ev (fun k => attestorlaw03_same.f k l l) true := by
  refine Ev.congr (fun k => ?_) (lsame_l0 hl l.length 0 (by omega))
  rw [attestorlaw03_same.f, if_pos rfl]
  rfl
theorem nrm_length_eq {p : Int} (hp : 0 < p) {l : List Int} {n : Nat} (hd : Deg p l (n + 1)) (ht : ¬ Cg p (co l n) 0) : (nrm p l).length = n + 1 := by
  have h1 := nrm_deg hp hd
  rcases Nat.lt_or_ge n (nrm p l).length with e | e
  · omega
  · exact absurd (Deg.of_nrm n e) ht
section any
variable {f : Int} {p : Nat} (h : FO f p)
include h
end any
end Go.Proofs.YtmnahhacobfafaaDoor.Pure
namespace Go.Proofs.YtmnahhacobfafaaDoor.Pure
open Go.RowKit Go.Proofs.YtmnahhacobfafaaDoor.Q Go.Proofs.YtmnahhacobfafaaDoor.Num Go.Proofs.YtmnahhacobfafaaDoor.Pol Go.Proofs.YtmnahhacobfafaaDoorW.PrintWords Go.Proofs.YtmnahhacobfafaaDoorW.PrintLast Go.Proofs.YtmnahhacobfafaaDoorW.PrintMore
theorem works60 : attestorlaw03_works.f 60 = some true := by decide +kernel
theorem s_works : Ev (fun k => attestorlaw03_works.f k) true := Ev.of_mono attestorlaw03_works.mono works60
end Go.Proofs.YtmnahhacobfafaaDoor.Pure

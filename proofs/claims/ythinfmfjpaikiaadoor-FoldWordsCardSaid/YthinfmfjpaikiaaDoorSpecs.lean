/- What the functions of the program and of the reference answer: plain arithmetic, no memory. -/
import Derived.Test.YthinfmfjpaikiaaDoorPol
import Derived.Test.YthinfmfjpaikiaaDoorQ0
import Derived.Test.YthinfmfjpaikiaaDoorQ2
import Derived.Test.YthinfmfjpaikiaaDoorQ3
import Derived.Test.YthinfmfjpaikiaaDoorQ17
import Derived.Laws.BitsLemmas
import Derived.KernelRfl
import Derived.Test.YthinfmfjpaikiaaDoorQ15
import Derived.Test.YthinfmfjpaikiaaDoorQ4
import Derived.Test.YthinfmfjpaikiaaDoorQ5
import Derived.Test.YthinfmfjpaikiaaDoorQ10
import Derived.Test.YthinfmfjpaikiaaDoorQ7
import Derived.Test.YthinfmfjpaikiaaDoorQ12
import Derived.Test.YthinfmfjpaikiaaDoorQ13
namespace Go.Proofs.YthinfmfjpaikiaaDoor.Pol
open Num

def smn (g : Nat → Int) : Nat → Int
  | 0 => 0
  | n + 1 => smn g n + g n
theorem smn_cg {p : Int} {g g' : Nat → Int} : ∀ {n : Nat}, (∀ i, i < n → Cg p (g i) (g' i)) → Cg p (smn g n) (smn g' n)
  | 0, _ => Cg.refl _ _
  | n + 1, h => (smn_cg (n := n) fun i hi => h i (by omega)).add (h n (by omega))
theorem smn_congr {g g' : Nat → Int} : ∀ {n : Nat}, (∀ i, i < n → g i = g' i) → smn g n = smn g' n
  | 0, _ => rfl
  | n + 1, h => by rw [smn, smn, smn_congr (n := n) fun i hi => h i (by omega), h n (by omega)]
theorem smn_add (g g' : Nat → Int) : ∀ n : Nat, smn (fun i => g i + g' i) n = smn g n + smn g' n
  | 0 => rfl
  | n + 1 => by rw [smn, smn, smn, smn_add g g' n]; omega
theorem smn_mul (c : Int) (g : Nat → Int) : ∀ n : Nat, smn (fun i => c * g i) n = c * smn g n
  | 0 => by simp [smn]
  | n + 1 => by rw [smn, smn, smn_mul c g n, Int.mul_add]
theorem smn_zero : ∀ n : Nat, smn (fun _ => 0) n = 0
  | 0 => rfl
  | n + 1 => by rw [smn, smn_zero n]; rfl
theorem smn_one : ∀ n : Nat, smn (fun _ => 1) n = n
  | 0 => rfl
  | n + 1 => by rw [smn, smn_one n]; omega
theorem smn_swap (F : Nat → Nat → Int) (m : Nat) : ∀ n : Nat, smn (fun i => smn (fun l => F i l) m) n = smn (fun l => smn (fun i => F i l) n) m
  | 0 => by simp only [smn]; exact (smn_zero m).symm
  | n + 1 => by rw [smn, smn_swap F m n, ← smn_add]; rfl
theorem smn_pairs (g : Nat → Int) : ∀ n : Nat, smn g (2 * n) = smn (fun i => g (2 * i) + g (2 * i + 1)) n
  | 0 => rfl
  | n + 1 => by rw [show 2 * (n + 1) = 2 * n + 1 + 1 by omega, smn, smn, smn, smn_pairs g n]; omega
theorem smn_only {p : Int} {g : Nat → Int} {j : Nat} {v : Int} : ∀ {n : Nat}, j < n → (∀ i, i < n → i ≠ j → Cg p (g i) 0) → Cg p (g j) v → Cg p (smn g n) v
  | 0, h, _, _ => by omega
  | n + 1, hj, h0, h1 => by
    rw [smn]
    by_cases e : j = n
    · subst e
      have h2 : Cg p (smn g j) (smn (fun _ => 0) j) := smn_cg fun i hi => h0 i (by omega) (by omega)
      rw [smn_zero] at h2
      have := h2.add h1
      simpa using this
    · have h2 := smn_only (n := n) (by omega) (fun i hi hne => h0 i (by omega) hne) h1
      have := h2.add (h0 n (by omega) (by omega))
      simpa using this
theorem ev_smn (x : Int) : ∀ (l : List Int) (n : Nat), l.length ≤ n → ev l x = smn (fun t => co l t * x ^ t) n
  | [], n, _ => by
    have : smn (fun t => co [] t * x ^ t) n = smn (fun _ => 0) n := smn_congr fun i _ => by simp
    rw [this, smn_zero, ev]
  | c :: t, 0, h => by simp at h
  | c :: t, n + 1, h => by
    have e : ∀ m, smn (fun i => co (c :: t) i * x ^ i) (m + 1) = c + x * smn (fun i => co t i * x ^ i) m := fun m => by
      induction m with
      | zero => simp [smn]
      | succ m ih =>
        rw [smn, ih, smn, co_cons_succ, Int.pow_succ]; grind
    rw [e, ev, ev_smn x t n (by simpa using h)]

def evn : List Int → List Int
  | [] => []
  | [c] => [c]
  | c :: _ :: t => c :: evn t
def odn : List Int → List Int
  | [] => []
  | [_] => []
  | _ :: d :: t => d :: odn t
theorem co_evn : ∀ (l : List Int) (i : Nat), co (evn l) i = co l (2 * i)
  | [], i => by simp [evn]
  | [c], 0 => by simp [evn]
  | [c], i + 1 => by rw [co_over (by simp [evn]), co_over (by simp; omega)]
  | c :: d :: t, 0 => by simp [evn]
  | c :: d :: t, i + 1 => by rw [evn, co_cons_succ, co_evn t i, show 2 * (i + 1) = (2 * i + 1) + 1 by omega, co_cons_succ, co_cons_succ]
theorem co_odn : ∀ (l : List Int) (i : Nat), co (odn l) i = co l (2 * i + 1)
  | [], i => by simp [odn]
  | [c], i => by rw [co_over (by simp [odn]), co_over (by simp)]
  | c :: d :: t, 0 => by simp [odn]
  | c :: d :: t, i + 1 => by rw [odn, co_cons_succ, co_odn t i, show 2 * (i + 1) + 1 = (2 * i + 1 + 1) + 1 by omega, co_cons_succ, co_cons_succ]
theorem ev_halves (x : Int) : ∀ l : List Int, ev l x = ev (evn l) (x * x) + x * ev (odn l) (x * x)
  | [] => by simp [ev, evn, odn]
  | [c] => by simp [ev, evn, odn]
  | c :: d :: t => by simp only [ev, evn, odn]; rw [ev_halves x t]; grind
def rev : Nat → Nat → Nat
  | 0, _ => 0
  | k + 1, i => 2 * rev k (i % 2 ^ k) + i / 2 ^ k
theorem rev_lt : ∀ (k i : Nat), i < 2 ^ k → rev k i < 2 ^ k
  | 0, _, _ => by simp [rev]
  | k + 1, i, h => by
    have hp : 0 < 2 ^ k := Nat.pow_pos (by omega)
    have h1 := rev_lt k (i % 2 ^ k) (Nat.mod_lt _ hp)
    have h2 : i / 2 ^ k < 2 := by rw [Nat.div_lt_iff_lt_mul hp]; rw [Nat.pow_succ] at h; omega
    rw [rev, Nat.pow_succ]; omega
theorem rev_low {k i : Nat} (h : i < 2 ^ k) : rev (k + 1) i = 2 * rev k i := by rw [rev, Nat.mod_eq_of_lt h, Nat.div_eq_of_lt h]; omega
theorem rev_high {k i : Nat} (h : i < 2 ^ k) : rev (k + 1) (2 ^ k + i) = 2 * rev k i + 1 := by
  have hp : 0 < 2 ^ k := Nat.pow_pos (by omega)
  rw [rev, Nat.add_mod_left, Nat.mod_eq_of_lt h, Nat.add_div_left _ hp, Nat.div_eq_of_lt h]
def vals (p w : Int) (a : List Int) (n : Nat) : List Int := (List.range n).map fun i => ev a (w ^ i) % p
theorem vals_length (p w : Int) (a : List Int) (n : Nat) : (vals p w a n).length = n := by simp [vals]
theorem co_vals {p w : Int} {a : List Int} {n i : Nat} (h : i < n) : co (vals p w a n) i = ev a (w ^ i) % p := by
  rw [co_lt (by rw [vals_length]; exact h)]; simp [vals]
def Rt (p w : Int) (k : Nat) : Prop := ∀ j, k = j + 1 → Cg p (w ^ 2 ^ j) (-1)
theorem Rt.sq {p w : Int} {k : Nat} (h : Rt p w (k + 1)) : Rt p (w * w) k := fun j hj => by
  have e : (w * w) ^ 2 ^ j = w ^ 2 ^ k := by
    subst hj
    rw [Int.mul_pow, ← Int.pow_add, Nat.pow_succ, Nat.mul_two]
  rw [e]; exact h k rfl
theorem Rt.congr {p w v : Int} {k : Nat} (h : Rt p w k) (e : Cg p w v) : Rt p v k := fun j hj => (e.symm.pow _).trans (h j hj)
theorem neg_one_pow_odd (j : Nat) : (-1 : Int) ^ (2 * j + 1) = -1 := by
  rw [Int.pow_succ, Int.pow_mul, show ((-1 : Int) ^ 2) = 1 by rfl, Int.one_pow]
  rfl
theorem geo {p : Int} : ∀ (k : Nat) (w : Int) (m : Nat), Rt p w k → ¬ 2 ^ k ∣ m → Cg p (smn (fun i => w ^ (i * m)) (2 ^ k)) 0
  | 0, w, m, _, hm => absurd (by rw [Nat.pow_zero]; exact Nat.one_dvd m) hm
  | k + 1, w, m, hw, hm => by
    have e : smn (fun i => w ^ (i * m)) (2 ^ (k + 1)) = (1 + w ^ m) * smn (fun i => (w * w) ^ (i * m)) (2 ^ k) := by
      rw [Nat.pow_succ, Nat.mul_comm, smn_pairs, ← smn_mul]
      refine smn_congr fun i _ => ?_
      have e1 : w ^ (2 * i * m) = (w * w) ^ (i * m) := by rw [Int.mul_pow, ← Int.pow_add]; congr 1; grind
      have e2 : w ^ ((2 * i + 1) * m) = (w * w) ^ (i * m) * w ^ m := by rw [← e1, ← Int.pow_add]; congr 1; grind
      rw [e1, e2]; grind
    rw [e]
    by_cases hd : 2 ^ k ∣ m
    · obtain ⟨j, rfl⟩ := hd
      have hj : j % 2 = 1 := by
        rcases Nat.mod_two_eq_zero_or_one j with q | q
        · exact absurd (by rw [Nat.pow_succ]; exact Nat.mul_dvd_mul_left _ (Nat.dvd_of_mod_eq_zero q)) hm
        · exact q
      obtain ⟨i, rfl⟩ : ∃ i, j = 2 * i + 1 := ⟨j / 2, by omega⟩
      have h1 : Cg p (w ^ (2 ^ k * (2 * i + 1))) (-1) := by
        rw [Int.pow_mul]
        have := (hw k rfl).pow (2 * i + 1)
        rwa [neg_one_pow_odd] at this
      have h2 := ((Cg.refl p 1).add h1).mul (Cg.refl p (smn (fun i_1 => (w * w) ^ (i_1 * (2 ^ k * (2 * i + 1)))) (2 ^ k)))
      simpa using h2
    · have := (Cg.refl p (1 + w ^ m)).mul (geo k (w * w) m hw.sq hd)
      simpa using this
theorem pow_pair {p w u : Int} (h : Cg p (w * u) 1) (a : Nat) : Cg p (w ^ a * u ^ a) 1 := by
  rw [← Int.mul_pow]
  have := h.pow a
  rwa [Int.one_pow] at this
theorem Rt.inv {p w u : Int} {k : Nat} (hw : Rt p w k) (h : Cg p (w * u) 1) : Rt p u k := fun j hj => by
  have h1 := pow_pair h (2 ^ j)
  have h2 := ((hw j hj).mul (Cg.refl p (u ^ 2 ^ j))).symm.trans h1
  have h3 : Cg p (-1 * (-1 * u ^ 2 ^ j)) (-1 * 1) := (Cg.refl p (-1)).mul h2
  exact (Cg.of_eq (by omega)).trans h3
theorem dft_inv {p w u : Int} {k : Nat} (hw : Rt p w k) (hu : Cg p (w * u) 1) {a : List Int} (ha : a.length ≤ 2 ^ k) {j : Nat} (hj : j < 2 ^ k) : Cg p (ev (vals p w a (2 ^ k)) (u ^ j)) (((2 ^ k : Nat) : Int) * co a j) := by
  have hu2 := hw.inv hu
  rw [ev_smn _ _ (2 ^ k) (by rw [vals_length]; exact Nat.le_refl _)]
  have h1 : Cg p (smn (fun i => co (vals p w a (2 ^ k)) i * (u ^ j) ^ i) (2 ^ k)) (smn (fun i => smn (fun l => co a l * (w ^ i) ^ l * (u ^ j) ^ i) (2 ^ k)) (2 ^ k)) := smn_cg fun i hi => by
    rw [co_vals hi]
    refine ((Cg.mod _ _).mul (Cg.refl _ _)).trans (Cg.of_eq ?_)
    rw [ev_smn _ a (2 ^ k) ha, Int.mul_comm, ← smn_mul]
    exact smn_congr fun l _ => by rw [Int.mul_comm]
  refine h1.trans ?_
  rw [smn_swap]
  refine smn_only (j := j) hj (fun l hl hne => ?_) ?_
  · have e : smn (fun i => co a l * (w ^ i) ^ l * (u ^ j) ^ i) (2 ^ k) = co a l * smn (fun i => (w ^ i) ^ l * (u ^ j) ^ i) (2 ^ k) := by
      rw [← smn_mul]; exact smn_congr fun i _ => by rw [Int.mul_assoc]
    rw [e]
    have h2 : Cg p (smn (fun i => (w ^ i) ^ l * (u ^ j) ^ i) (2 ^ k)) 0 := by
      rcases Nat.lt_or_ge l j with q | q
      · have h3 : Cg p (smn (fun i => (w ^ i) ^ l * (u ^ j) ^ i) (2 ^ k)) (smn (fun i => u ^ (i * (j - l))) (2 ^ k)) := smn_cg fun i _ => by
          have e1 : (u ^ j) ^ i = u ^ (i * l) * u ^ (i * (j - l)) := by rw [← Int.pow_mul, ← Int.pow_add]; congr 1; rw [← Nat.mul_add, Nat.mul_comm j i]; congr 1; omega
          rw [e1, ← Int.pow_mul, ← Int.mul_assoc]
          have := (pow_pair hu (i * l)).mul (Cg.refl p (u ^ (i * (j - l))))
          rwa [Int.one_mul] at this
        refine h3.trans (geo k u (j - l) hu2 fun hd => ?_)
        have := Nat.le_of_dvd (by omega) hd
        omega
      · have h3 : Cg p (smn (fun i => (w ^ i) ^ l * (u ^ j) ^ i) (2 ^ k)) (smn (fun i => w ^ (i * (l - j))) (2 ^ k)) := smn_cg fun i _ => by
          have e1 : (w ^ i) ^ l = w ^ (i * (l - j)) * w ^ (i * j) := by rw [← Int.pow_mul, ← Int.pow_add]; congr 1; rw [← Nat.mul_add]; congr 1; omega
          have e2 : (u ^ j) ^ i = u ^ (i * j) := by rw [← Int.pow_mul, Nat.mul_comm]
          rw [e1, e2, Int.mul_assoc]
          have := (Cg.refl p (w ^ (i * (l - j)))).mul (pow_pair hu (i * j))
          rwa [Int.mul_one] at this
        refine h3.trans (geo k w (l - j) hw fun hd => ?_)
        have := Nat.le_of_dvd (by omega) hd
        omega
    have := (Cg.refl p (co a l)).mul h2
    rwa [Int.mul_zero] at this
  · have h3 : Cg p (smn (fun i => co a j * (w ^ i) ^ j * (u ^ j) ^ i) (2 ^ k)) (smn (fun i => co a j * 1) (2 ^ k)) := smn_cg fun i _ => by
      have e1 : (w ^ i) ^ j = w ^ (i * j) := by rw [← Int.pow_mul]
      have e2 : (u ^ j) ^ i = u ^ (i * j) := by rw [← Int.pow_mul, Nat.mul_comm]
      rw [Int.mul_assoc, e1, e2]
      exact (Cg.refl p (co a j)).mul (pow_pair hu (i * j))
    refine h3.trans (Cg.of_eq ?_)
    rw [smn_mul, smn_one, Int.mul_comm]
end Go.Proofs.YthinfmfjpaikiaaDoor.Pol
namespace Go.Proofs.YthinfmfjpaikiaaDoor.Pure
open Go.RowKit Go.Proofs.YthinfmfjpaikiaaDoor.Q Go.Proofs.YthinfmfjpaikiaaDoor.Num Go.Proofs.YthinfmfjpaikiaaDoor.Pol Go.Proofs.YthinfmfjpaikiaaDoorW.PrintWords Go.Proofs.YthinfmfjpaikiaaDoorW.PrintLast Go.Proofs.YthinfmfjpaikiaaDoorW.PrintMore

def Ev {α : Type} (F : Nat → Option α) (v : α) : Prop := ∃ K, ∀ k, K ≤ k → F k = some v
theorem Ev.all {α : Type} {F : Nat → Option α} {v : α} (h : ∀ k, F k = some v) : Ev F v := ⟨0, fun k _ => h k⟩
theorem Ev.mk {α : Type} {F : Nat → Option α} {v : α} (K : Nat) (h : ∀ k, K ≤ k → F k = some v) : Ev F v := ⟨K, h⟩
theorem Ev.mks {α : Type} {F : Nat → Option α} {v : α} (K : Nat) (h : ∀ k, K ≤ k → F (k + 1) = some v) : Ev F v := ⟨K + 1, fun k hk => by
  obtain ⟨k, rfl⟩ : ∃ k', k = k' + 1 := ⟨k - 1, by omega⟩
  exact h k (by omega)⟩
theorem Ev.get {α : Type} {F : Nat → Option α} {v : α} (h : Ev F v) : ∃ K, ∀ k, K ≤ k → F k = some v := h
theorem Ev.ex {α : Type} {F : Nat → Option α} {v : α} (h : Ev F v) : ∃ k, F k = some v := let ⟨K, hK⟩ := h; ⟨K, hK K (Nat.le_refl _)⟩
theorem Ev.succ {α : Type} {F G : Nat → Option α} {v : α} (h : ∀ k, G (k + 1) = F k) (hF : Ev F v) : Ev G v := by
  obtain ⟨K, hK⟩ := hF
  refine ⟨K + 1, fun k hk => ?_⟩
  obtain ⟨j, rfl⟩ : ∃ j, k = j + 1 := ⟨k - 1, by omega⟩
  rw [h]
  exact hK j (by omega)
theorem Ev.congr {α : Type} {F G : Nat → Option α} {v : α} (h : ∀ k, G k = F k) (hF : Ev F v) : Ev G v := by
  obtain ⟨K, hK⟩ := hF
  exact ⟨K, fun k hk => (h k).trans (hK k hk)⟩
theorem Ev.bind {α β : Type} {F : Nat → Option α} {G : Nat → α → Option β} {a : α} {b : β} (hF : Ev F a) (hG : Ev (fun k => G k a) b) : Ev (fun k => (F k).bind (G k)) b := by
  obtain ⟨K, hK⟩ := hF
  obtain ⟨L, hL⟩ := hG
  refine ⟨max K L, fun k hk => ?_⟩
  show (F k).bind (G k) = some b
  rw [hK k (by omega)]
  exact hL k (by omega)
theorem Ev.of_mono {α : Type} {F : Nat → Option α} {v : α} (hm : ∀ k, LeO (F k) (F (k + 1))) {K : Nat} (h : F K = some v) : Ev F v := by
  refine ⟨K, fun k hk => ?_⟩
  obtain ⟨d, rfl⟩ : ∃ d, k = K + d := ⟨k - K, by omega⟩
  clear hk
  induction d with
  | zero => exact h
  | succ d ih => exact hm _ _ ih
theorem Ev.uniq {α : Type} {F : Nat → Option α} {v w : α} (h : Ev F v) (g : Ev F w) : v = w := by
  obtain ⟨K, hK⟩ := h
  obtain ⟨L, hL⟩ := g
  exact Option.some.inj ((hK (max K L) (by omega)).symm.trans (hL (max K L) (by omega)))

def U (x : Int) : Prop := 0 ≤ x ∧ x < 18446744073709551616
def UL (l : List Int) : Prop := ∀ c ∈ l, U c
theorem U.zero : U 0 := by unfold U; omega
theorem U.of_wf {x : Int} (h : (Lit.int .u64 x).wf = true) : U x := by
  simp [Lit.wf, IntKind.min, IntKind.max, IntKind.bits, IntKind.signed] at h
  unfold U; omega
theorem U.co {l : List Int} (h : UL l) (i : Nat) : U (co l i) := by
  by_cases hi : i < l.length
  · exact h _ (co_mem hi)
  · rw [co_over (by omega)]; exact U.zero
theorem UL.nil : UL [] := fun _ h => by simp at h
theorem UL.cons {c : Int} {l : List Int} (h : U c) (g : UL l) : UL (c :: l) := fun x hx => (List.mem_cons.1 hx).elim (fun e => e ▸ h) (g x)
theorem UL.append {a b : List Int} (h : UL a) (g : UL b) : UL (a ++ b) := fun x hx => (List.mem_append.1 hx).elim (h x) (g x)
theorem UL.take {a : List Int} (h : UL a) (n : Nat) : UL (a.take n) := fun _ hx => h _ (List.mem_of_mem_take hx)
theorem UL.replicate (n : Nat) : UL (List.replicate n 0) := fun x hx => by rw [(List.mem_replicate.1 hx).2]; exact U.zero
theorem UL.set {a : List Int} (h : UL a) {x : Int} (hx : U x) (i : Nat) : UL (a.set i x) := fun y hy => by
  rcases List.mem_or_eq_of_mem_set hy with hy | rfl
  · exact h _ hy
  · exact hx
theorem UL.of_wf {l : List Int} (h : ∀ x ∈ l, (Lit.int .u64 x).wf = true) : UL l := fun x hx => U.of_wf (h x hx)

theorem w64 {n : Int} (h1 : -9223372036854775808 ≤ n) (h2 : n ≤ 9223372036854775807) : wrap64 n = n := by unfold wrap64; omega
theorem w64_succ {i : Nat} (h : i < 9223372036854775807) : wrap64 ((i : Int) + 1) = ((i + 1 : Nat) : Int) := by rw [w64 (by omega) (by omega)]; omega
theorem wu64 {n : Int} (h1 : 0 ≤ n) (h2 : n < 18446744073709551616) : IntKind.u64.wrap n = n := by rw [IntKind.wrap_u64]; omega
theorem rd_nat (l : List Int) (i : Nat) : rd l (i : Int) = co l i := by simp [rd, co]
theorem tmod_nn {a : Int} (h : 0 ≤ a) (p : Int) : Int.tmod a p = a % p := Int.tmod_eq_emod_of_nonneg h
theorem co_set {l : List Int} {i : Nat} (h : i < l.length) (x : Int) (j : Nat) : co (l.set i x) j = if j = i then x else co l j := by
  unfold co
  rw [List.getD_eq_getElem?_getD, List.getD_eq_getElem?_getD, List.getElem?_set]
  by_cases e : i = j
  · subst e; simp [h]
  · simp [e, Ne.symm e]
theorem co_replicate (n i : Nat) : co (List.replicate n 0) i = 0 := by
  by_cases h : i < n
  · rw [co_lt (by simpa using h)]; simp
  · exact co_over (by simpa using h)
theorem co_append (a b : List Int) (i : Nat) : co (a ++ b) i = if i < a.length then co a i else co b (i - a.length) := by
  unfold co
  rw [List.getD_eq_getElem?_getD, List.getElem?_append]
  split <;> simp
theorem co_take (a : List Int) (n i : Nat) : co (a.take n) i = if i < n then co a i else 0 := by
  unfold co
  rw [List.getD_eq_getElem?_getD, List.getElem?_take]
  split <;> simp
theorem ext_co {a b : List Int} (hl : a.length = b.length) (h : ∀ i, i < a.length → co a i = co b i) : a = b := by
  refine List.ext_getElem hl fun i h1 h2 => ?_
  have := h i h1
  rwa [co_lt h1, co_lt h2] at this
end Go.Proofs.YthinfmfjpaikiaaDoor.Pure
namespace Go.Proofs.YthinfmfjpaikiaaDoor.Pure
open Go.RowKit Go.Proofs.YthinfmfjpaikiaaDoor.Q Go.Proofs.YthinfmfjpaikiaaDoor.Num Go.Proofs.YthinfmfjpaikiaaDoor.Pol Go.Proofs.YthinfmfjpaikiaaDoorW.PrintWords Go.Proofs.YthinfmfjpaikiaaDoorW.PrintLast Go.Proofs.YthinfmfjpaikiaaDoorW.PrintMore

structure FP (f : Int) (p : Nat) : Prop where
  lo : 0 ≤ f
  hi : f < 4
  eq : pOf f = p
  pr : Pr p
  le : p ≤ 998244353
theorem fp_of {f : Int} (h0 : 0 ≤ f) (h1 : f < 4) : ∃ p, FP f p := by
  have : f = 0 ∨ f = 1 ∨ f = 2 ∨ f = 3 := by omega
  rcases this with rfl | rfl | rfl | rfl
  · exact ⟨97, by omega, by omega, rfl, pr97, by omega⟩
  · exact ⟨257, by omega, by omega, rfl, pr257, by omega⟩
  · exact ⟨12289, by omega, by omega, rfl, pr12289, by omega⟩
  · exact ⟨998244353, by omega, by omega, rfl, pr998244353, by omega⟩
theorem fp_or (f : Int) : (∃ p, FP f p) ∨ (f < 0 ∨ 4 ≤ f) := by
  rcases Int.lt_or_le f 0 with h | h
  · exact Or.inr (Or.inl h)
  · rcases Int.lt_or_le f 4 with h' | h'
    · exact Or.inl (fp_of h h')
    · exact Or.inr (Or.inr h')
theorem FP.pos {f : Int} {p : Nat} (h : FP f p) : (0 : Int) < p := h.pr.pos
theorem FP.one {f : Int} {p : Nat} (h : FP f p) : (1 : Int) < p := by have := h.pr.two; omega
theorem FP.lei {f : Int} {p : Nat} (h : FP f p) : (p : Int) ≤ 998244353 := by have := h.le; omega
theorem FP.mod {f : Int} {p : Nat} (h : FP f p) (a : Int) : 0 ≤ a % p ∧ a % p < p := ⟨mod_nonneg h.pos a, mod_lt h.pos a⟩
theorem FP.U {f : Int} {p : Nat} (h : FP f p) (a : Int) : U (a % p) := by have := h.mod a; have := h.lei; unfold Pure.U; omega
theorem pOf_bad {f : Int} (h : f < 0 ∨ 4 ≤ f) : pOf f = 0 := by
  unfold pOf
  rw [if_neg (by omega), if_neg (by omega), if_neg (by omega), if_neg (by omega)]

section good
variable {f : Int} {p : Nat} (h : FP f p)
include h
theorem s_Valid : field_Valid.f f = some true := by
  unfold field_Valid.f
  rw [if_pos h.lo, decide_eq_true h.hi]
theorem s_P : field_P.f f = some (p : Int) := by simp [field_P.f, h.eq]
theorem s_Reduce {x : Int} (hx : 0 ≤ x) : field_Reduce.f f x = some (x % p) := by
  have := h.pos
  simp only [field_Reduce.f, s_Valid h, s_P h, Option.bind_some, if_true]
  rw [if_neg (by omega), tmod_nn hx]
theorem s_Add {a b : Int} (ha : 0 ≤ a) (hb : 0 ≤ b) : field_Add.f f a b = some ((a + b) % p) := by
  have hp := h.pos
  have ma := h.mod a
  have mb := h.mod b
  have hl := h.lei
  simp only [field_Add.f, s_P h, Option.bind_some]
  rw [if_neg (by omega), tmod_nn ha, tmod_nn hb, wu64 (by omega) (by omega)]
  have e : (a + b) % p = (a % p + b % p) % p := by rw [← Int.add_emod]
  by_cases hc : a % p + b % p ≥ p
  · rw [if_pos hc, wu64 (by omega) (by omega), e]
    have : (a % p + b % p) % p = (a % p + b % p - p) % p := by rw [← Int.sub_emod_right]
    rw [this]
    exact congrArg some (Int.emod_eq_of_lt (by omega) (by omega)).symm
  · rw [if_neg hc, e]
    exact congrArg some (Int.emod_eq_of_lt (by omega) (by omega)).symm
theorem s_Neg {a : Int} (ha : 0 ≤ a) : field_Neg.f f a = some ((-a) % p) := by
  have hp := h.pos
  have ma := h.mod a
  have hl := h.lei
  simp only [field_Neg.f, s_P h, Option.bind_some]
  rw [if_neg (by omega), tmod_nn ha]
  have e : (-a) % p = (-(a % p)) % p := Cg.mod_eq (Cg.neg (Cg.mod p a).symm)
  by_cases h0 : a % p = 0
  · rw [if_pos h0, e, h0]; simp
  · rw [if_neg h0, wu64 (by omega) (by omega), e]
    have : (-(a % p)) % p = (p - a % p) % p := by
      have : (p : Int) - a % p = -(a % p) + p * 1 := by omega
      rw [this, Int.add_mul_emod_self_left]
    rw [this]
    exact congrArg some (Int.emod_eq_of_lt (by omega) (by omega)).symm
theorem s_Sub {a b : Int} (ha : 0 ≤ a) (hb : 0 ≤ b) : field_Sub.f f a b = some ((a - b) % p) := by
  simp only [field_Sub.f, s_Neg h hb, Option.bind_some]
  rw [s_Add h ha (h.mod _).1]
  simp only [Option.bind_some]
  congr 1
  exact Cg.mod_eq ((Cg.refl _ a).add (Cg.mod _ _))
theorem s_Mul {a b : Int} (ha : 0 ≤ a) (hb : 0 ≤ b) : field_Mul.f f a b = some ((a * b) % p) := by
  have hp := h.pos
  have ma := h.mod a
  have mb := h.mod b
  have hl := h.lei
  have h1 : 0 ≤ (a % p) * (b % p) := Int.mul_nonneg ma.1 mb.1
  have h2 : (a % p) * (b % p) ≤ 998244353 * 998244353 := Int.mul_le_mul (by omega) (by omega) mb.1 (by omega)
  simp only [field_Mul.f, s_P h, Option.bind_some]
  rw [if_neg (by omega), tmod_nn ha, tmod_nn hb, wu64 h1 (by omega), tmod_nn h1]
  congr 1
  exact Cg.mod_eq ((Cg.mod p a).mul (Cg.mod p b))
end good

def inv (p : Nat) (a : Int) : Int := a ^ (p - 2) % p
theorem inv_spec {p : Nat} (h : Pr p) {a : Int} (ha : ¬ Cg p a 0) : Cg p (a * inv p a) 1 := ((Cg.refl _ a).mul (Cg.mod _ _)).trans (inv_pow h ha)
theorem inv_zero {p : Nat} (h3 : 3 ≤ p) {a : Int} (ha : Cg p a 0) : inv p a = 0 := by
  unfold inv
  have := (ha.pow (p - 2)).mod_eq
  rw [this, Int.zero_pow (by omega)]
  simp
theorem inv_nn {p : Nat} (h : Pr p) (a : Int) : 0 ≤ inv p a := mod_nonneg h.pos _
theorem inv_congr {p : Nat} {a b : Int} (h : Cg p a b) : inv p a = inv p b := (h.pow _).mod_eq
theorem FP.three {f : Int} {p : Nat} (h : FP f p) : 3 ≤ p := by
  have h0 := h.eq
  have h1 := h.lo
  have h2 := h.hi
  have : f = 0 ∨ f = 1 ∨ f = 2 ∨ f = 3 := by omega
  rcases this with rfl | rfl | rfl | rfl <;> (simp [pOf] at h0; omega)

theorem inv_step (k : Nat) (P r0 r1 x8 x9 q m x9' : Int) (hq : q = r0 / r1) (hm : m = r0 % r1) (h1 : 0 < r1) (h0 : 0 ≤ r0) (hr : r0 ≤ 998244353) (hx : x9' = x8 - q * x9) (b1 : -998244353 ≤ q * x9) (b2 : q * x9 ≤ 998244353) (b3 : -998244353 ≤ x9') (b4 : x9' ≤ 998244353) :
    field_Inv.l0 (k + 1) P r0 r1 x8 x9 = field_Inv.l0 k P r1 m x9 x9' := by
  have e := Int.emod_add_mul_ediv r0 r1
  rw [← hq, ← hm] at e
  have hm0 : 0 ≤ m := by rw [hm]; exact Int.emod_nonneg _ (by omega)
  have hm1 : m < r1 := by rw [hm]; exact Int.emod_lt_of_pos _ h1
  have hq0 : 0 ≤ q := by rw [hq]; exact Int.ediv_nonneg h0 (by omega)
  have hqr : r1 * q ≤ r0 := by omega
  have hq1 : q ≤ r1 * q := by
    have := Int.mul_le_mul_of_nonneg_right (show (1 : Int) ≤ r1 by omega) hq0
    omega
  have hc : q * r1 = r1 * q := Int.mul_comm _ _
  rw [field_Inv.l0, if_neg (by omega), Int.tdiv_eq_ediv_of_nonneg h0, ← hq, w64 (n := q) (by omega) (by omega), w64 (n := q * r1) (by omega) (by omega), w64 (n := q * x9) (by omega) (by omega), ← hx, w64 (n := x9') (by omega) (by omega), w64 (n := r0 - q * r1) (by omega) (by omega)]
  rw [show r0 - q * r1 = m by omega]
theorem inv_l0 {p : Nat} (hp : Pr p) (hle : p ≤ 998244353) {a b : Int} (hb : 0 < b ∧ b < p) (hab : Cg p a b) : ∀ (n : Nat) (r0 r1 u v s : Int), r1.toNat ≤ n → 0 ≤ r1 → r1 < r0 → r0 ≤ p → 0 ≤ u → u ≤ v → (s = 1 ∨ s = -1) → r0 * v + r1 * u = p →
    Cg p (a * (-s * u)) r0 → Cg p (a * (s * v)) r1 → (∀ d : Int, d ∣ r0 → d ∣ r1 → d ∣ b) → Ev (fun k => field_Inv.l0 k p r0 r1 (-s * u) (s * v)) (inv p a) := by
  have hpi : (p : Int) ≤ 998244353 := by omega
  have na : ¬ Cg p a 0 := fun h => by
    have := (hab.symm.trans h).mod_eq
    rw [Int.emod_eq_of_lt (by omega) hb.2] at this
    simp at this; omega
  intro n
  induction n with
  | zero =>
    intro r0 r1 u v s hn h1 h01 h0p hu huv hs he c0 c1 hd
    obtain rfl : r1 = 0 := by omega
    have hpos : 0 < r0 := by omega
    have hr0 : r0 = 1 := by
      have hdb : r0 ∣ b := hd r0 (Int.dvd_refl _) (Int.dvd_zero _)
      have hle0 : r0 ≤ b := Int.le_of_dvd hb.1 hdb
      have hdp : r0.natAbs ∣ p := by
        have : r0 ∣ (p : Int) := ⟨v, by omega⟩
        exact Int.natAbs_dvd_natAbs.2 this
      rcases hp.div _ hdp with e | e <;> omega
    subst hr0
    have hvp : v = p := by omega
    have hu2 : u ≠ p := by
      rintro rfl
      have h2 : Cg p (a * (-s * (p : Int))) 0 := ⟨a * -s, by grind⟩
      have := (c0.symm.trans h2).mod_eq
      rw [Int.emod_eq_of_lt (by omega) (by have := hp.two; omega)] at this
      simp at this
    have fin : ∀ r : Int, Cg p r (-s * u) → 0 ≤ r → r < p → r = inv p a := fun r hr g0 g1 => by
      have h2 := ((Cg.refl _ a).mul hr).trans c0
      have h3 := inv_uniq h2 (inv_spec hp na)
      exact h3.uniq g0 g1 (mod_nonneg hp.pos _) (mod_lt hp.pos _)
    refine Ev.succ (F := fun _ => some (inv p a)) (fun k => ?_) (Ev.all fun _ => rfl)
    rw [field_Inv.l0, if_pos rfl]
    rcases hs with rfl | rfl
    · by_cases h0 : u = 0
      · rw [if_neg (by omega), wu64 (by omega) (by omega)]
        exact congrArg some (fin _ (Cg.refl _ _) (by omega) (by omega))
      · rw [if_pos (by omega), w64 (n := (p : Int)) (by omega) (by omega), w64 (by omega) (by omega), wu64 (by omega) (by omega)]
        exact congrArg some (fin _ ⟨1, by omega⟩ (by omega) (by omega))
    · rw [if_neg (by omega), wu64 (by omega) (by omega)]
      exact congrArg some (fin _ (Cg.refl _ _) (by omega) (by omega))
  | succ n ih =>
    intro r0 r1 u v s hn h1 h01 h0p hu huv hs he c0 c1 hd
    by_cases hz : r1 = 0
    · subst hz
      exact (ih r0 0 u v s (by simp) h1 h01 h0p hu huv hs he c0 c1 hd)
    · obtain ⟨q, hq⟩ : ∃ q, q = r0 / r1 := ⟨_, rfl⟩
      obtain ⟨m, hm⟩ : ∃ m, m = r0 % r1 := ⟨_, rfl⟩
      have e := Int.emod_add_mul_ediv r0 r1
      rw [← hq, ← hm] at e
      have hm0 : 0 ≤ m := by rw [hm]; exact Int.emod_nonneg _ (by omega)
      have hm1 : m < r1 := by rw [hm]; exact Int.emod_lt_of_pos _ (by omega)
      have hq1 : 1 ≤ q := by
        rcases Int.lt_or_le q 1 with h | h
        · have : r1 * q ≤ 0 := Int.mul_nonpos_of_nonneg_of_nonpos (by omega) (by omega)
          omega
        · exact h
      have hv0 : 0 ≤ v := by omega
      have hqv : 0 ≤ q * v := Int.mul_nonneg (by omega) hv0
      have hv1 : v ≤ q * v := by
        have := Int.mul_le_mul_of_nonneg_right hq1 hv0
        omega
      have hkey : r1 * (u + q * v) + m * v = p := by
        have : r1 * (u + q * v) + m * v = (m + r1 * q) * v + r1 * u := by grind
        rw [this, e]; exact he
      have hmv : 0 ≤ m * v := Int.mul_nonneg hm0 hv0
      have hle1 : u + q * v ≤ r1 * (u + q * v) := by
        have := Int.mul_le_mul_of_nonneg_right (show (1 : Int) ≤ r1 by omega) (show 0 ≤ u + q * v by omega)
        omega
      have hb1 : u + q * v ≤ p := by omega
      have key := ih r1 m v (u + q * v) (-s) (by omega) hm0 hm1 (by omega) hv0 (by omega) (by omega) hkey
        (by have : a * (- -s * v) = a * (s * v) := by grind
            rw [this]; exact c1)
        (by have e1 : a * (-s * (u + q * v)) = a * (-s * u) - q * (a * (s * v)) := by grind
            rw [e1]
            have h2 := c0.sub ((Cg.refl _ q).mul c1)
            have e2 : r0 - q * r1 = m := by have : q * r1 = r1 * q := Int.mul_comm _ _; omega
            rwa [e2] at h2)
        (fun d d1 d2 => hd d (by rw [← e]; exact Int.dvd_add d2 (Int.dvd_mul_of_dvd_left d1)) d1)
      refine Ev.succ (fun k => ?_) key
      have e3 : - -s * v = s * v := by grind
      rw [e3]
      have e4 : -s * u - q * (s * v) = -s * (u + q * v) := by grind
      have hqs : q * (s * v) = s * (q * v) := by grind
      exact inv_step k p r0 r1 (-s * u) (s * v) q m (-s * (u + q * v)) hq hm (by omega) (by omega) (by omega) e4.symm (by rw [hqs]; rcases hs with rfl | rfl <;> omega) (by rw [hqs]; rcases hs with rfl | rfl <;> omega)
        (by rcases hs with rfl | rfl <;> omega) (by rcases hs with rfl | rfl <;> omega)
section good2
variable {f : Int} {p : Nat} (h : FP f p)
include h
theorem s_Inv {a : Int} (ha : 0 ≤ a) : Ev (fun k => field_Inv.f k f a) (inv p a) := by
  have hp := h.pos
  have ma := h.mod a
  have hl := h.lei
  by_cases h0 : a % p = 0
  · refine Ev.succ (F := fun _ => some (inv p a)) (fun k => ?_) (Ev.all fun _ => rfl)
    simp only [field_Inv.f, s_P h, Option.bind_some]
    rw [if_neg (by omega), tmod_nn ha, h0]
    simp only [field_Inv.j0]
    rw [if_pos (by rfl), inv_zero h.three (mod_eq_zero.1 h0)]
  · have key := inv_l0 h.pr h.le (a := a) (b := a % p) ⟨by omega, ma.2⟩ (Cg.mod _ _).symm (a % p).toNat p (a % p) 0 1 1 (Nat.le_refl _) ma.1 ma.2 (by omega) (by omega) (by omega) (Or.inl rfl) (by omega)
      ⟨-1, by omega⟩ (by simpa using (Cg.mod p a).symm) (fun d _ d2 => d2)
    refine Ev.succ (fun k => ?_) key
    simp only [field_Inv.f, s_P h, Option.bind_some]
    rw [if_neg (by omega), tmod_nn ha]
    simp only [field_Inv.j0]
    rw [if_neg (by simpa using h0), if_neg (by omega), tmod_nn ha, w64 (by omega) (by omega), w64 (by omega) (by omega)]
    rfl
end good2

section bad
variable {f : Int} (h : f < 0 ∨ 4 ≤ f)
include h
theorem b_Valid : field_Valid.f f = some false := by
  unfold field_Valid.f
  rcases h with h | h
  · rw [if_neg (by omega)]
  · rw [if_pos (by omega), decide_eq_false (by omega)]
theorem b_P : field_P.f f = some 0 := by simp [field_P.f, pOf_bad h]
theorem b_Add (a b : Int) : field_Add.f f a b = some 0 := by simp [field_Add.f, b_P h]
theorem b_Mul (a b : Int) : field_Mul.f f a b = some 0 := by simp [field_Mul.f, b_P h]
end bad
structure FO (f : Int) (p : Nat) : Prop where
  pos : (0 : Int) < p
  lei : (p : Int) ≤ 998244353
  ok : FP f p ∨ ((f < 0 ∨ 4 ≤ f) ∧ p = 1)
theorem FP.o {f : Int} {p : Nat} (h : FP f p) : FO f p := ⟨h.pos, h.lei, Or.inl h⟩
theorem FO.mod {f : Int} {p : Nat} (h : FO f p) (a : Int) : 0 ≤ a % p ∧ a % p < p := ⟨mod_nonneg h.pos a, mod_lt h.pos a⟩
theorem FO.U {f : Int} {p : Nat} (h : FO f p) (a : Int) : U (a % p) := by have := h.mod a; have := h.lei; unfold Pure.U; omega
theorem mod_one (a : Int) : a % ((1 : Nat) : Int) = 0 := Int.emod_one a
theorem nrm_one_nil (l : List Int) : nrm ((1 : Nat) : Int) l = [] := nrm_eq_nil.2 fun _ => mod_eq_zero.1 (mod_one _)
section any
variable {f : Int} {p : Nat} (h : FO f p)
include h
theorem o_Add {a b : Int} (ha : 0 ≤ a) (hb : 0 ≤ b) : field_Add.f f a b = some ((a + b) % p) := by
  rcases h.ok with g | ⟨g, rfl⟩
  · exact s_Add g ha hb
  · rw [b_Add g, mod_one]
theorem o_Mul {a b : Int} (ha : 0 ≤ a) (hb : 0 ≤ b) : field_Mul.f f a b = some ((a * b) % p) := by
  rcases h.ok with g | ⟨g, rfl⟩
  · exact s_Mul g ha hb
  · rw [b_Mul g, mod_one]
end any
end Go.Proofs.YthinfmfjpaikiaaDoor.Pure
namespace Go.Proofs.YthinfmfjpaikiaaDoor.Pure
open Go.RowKit Go.Proofs.YthinfmfjpaikiaaDoor.Q Go.Proofs.YthinfmfjpaikiaaDoor.Num Go.Proofs.YthinfmfjpaikiaaDoor.Pol Go.Proofs.YthinfmfjpaikiaaDoorW.PrintWords Go.Proofs.YthinfmfjpaikiaaDoorW.PrintLast Go.Proofs.YthinfmfjpaikiaaDoorW.PrintMore

theorem w64_pred {n : Nat} (h : n < 9223372036854775807) : wrap64 (((n + 1 : Nat) : Int) - 1) = (n : Int) := by rw [w64 (by omega) (by omega)]; omega
theorem cpyAt_full (l : List Int) : cpyAt (List.replicate l.length 0) 0 l = l := by
  unfold cpyAt splice
  simp
theorem ev_take_succ (x : Int) : ∀ (l : List Int) (d : Nat), ev (l.take (d + 1)) x = ev (l.take d) x + co l d * x ^ d
  | [], d => by simp [ev]
  | c :: t, 0 => by simp [ev]
  | c :: t, d + 1 => by
    have := ev_take_succ x t d
    simp only [List.take_succ_cons, ev, co_cons_succ] at this ⊢
    rw [this, Int.pow_succ]; grind
section any
variable {f : Int} {p : Nat} (h : FO f p)
include h
theorem eval_l0 {l : List Int} (hl : l.length ≤ 1000000) (hu : UL l) {x : Int} (hx : 0 ≤ x) : ∀ (d : Nat) (acc : Int), d ≤ l.length → 0 ≤ acc → acc < p → Ev (fun k => poly_Eval.l0 k f l x acc (l.length : Int) ((l.length - d : Nat) : Int)) ((acc * x ^ d + ev (l.take d) x) % p) := by
  intro d
  induction d with
  | zero =>
    intro acc _ h0 h1
    refine Ev.succ (F := fun _ => some ((acc * x ^ 0 + ev (l.take 0) x) % p)) (fun k => ?_) (Ev.all fun _ => rfl)
    rw [poly_Eval.l0, if_neg (by omega)]
    have : acc * x ^ 0 + ev (l.take 0) x = acc := by simp [ev]
    rw [this, Int.emod_eq_of_lt h0 h1]
  | succ d ih =>
    intro acc hd h0 h1
    have e1 : wrap64 (wrap64 ((l.length : Int) - 1) - ((l.length - (d + 1) : Nat) : Int)) = (d : Int) := by
      rw [w64 (n := (l.length : Int) - 1) (by omega) (by omega), w64 (by omega) (by omega)]; omega
    have e2 : ((l.length - (d + 1) : Nat) : Int) + 1 = ((l.length - d : Nat) : Int) := by omega
    have key := ih ((acc * x % p + co l d) % p) (by omega) (mod_nonneg h.pos _) (mod_lt h.pos _)
    have e3 : ((acc * x % p + co l d) % p * x ^ d + ev (l.take d) x) % p = (acc * x ^ (d + 1) + ev (l.take (d + 1)) x) % p := by
      refine Cg.mod_eq ?_
      have c1 : Cg p ((acc * x % p + co l d) % p) (acc * x + co l d) := (Cg.mod _ _).trans ((Cg.mod _ _).add (Cg.refl _ _))
      refine ((c1.mul (Cg.refl _ (x ^ d))).add (Cg.refl _ _)).trans (Cg.of_eq ?_)
      rw [ev_take_succ x l d, Int.pow_succ]; grind
    rw [e3] at key
    refine Ev.succ (fun k => ?_) key
    rw [poly_Eval.l0, if_pos (by omega), o_Mul h h0 hx, Option.bind_some, e1, if_pos (by omega), if_pos (by omega), rd_nat, o_Add h (mod_nonneg h.pos _) (U.co hu d).1, Option.bind_some, e2, w64 (by omega) (by omega)]
theorem s_Eval {l : List Int} (hl : l.length ≤ 1000000) (hu : UL l) {x : Int} (hx : 0 ≤ x) : Ev (fun k => poly_Eval.f k f l x) (ev l x % p) := by
  have key := eval_l0 h hl hu hx l.length 0 (Nat.le_refl _) (Int.le_refl _) h.pos
  rw [List.take_length, Int.zero_mul, Int.zero_add, Nat.sub_self] at key
  exact key

end any
section good
variable {f : Int} {p : Nat} (h : FP f p)
include h
theorem nrm_one : nrm p [1] = [1] := by
  have := h.one
  simp [nrm, trm, Int.emod_eq_of_lt, this]
end good
end Go.Proofs.YthinfmfjpaikiaaDoor.Pure
namespace Go.Proofs.YthinfmfjpaikiaaDoor.Pure
open Go.RowKit Go.Proofs.YthinfmfjpaikiaaDoor.Q Go.Proofs.YthinfmfjpaikiaaDoor.Num Go.Proofs.YthinfmfjpaikiaaDoor.Pol Go.Proofs.YthinfmfjpaikiaaDoorW.PrintWords Go.Proofs.YthinfmfjpaikiaaDoorW.PrintLast Go.Proofs.YthinfmfjpaikiaaDoorW.PrintMore

def sh (n : Nat) (l : List Int) : List Int := List.replicate n 0 ++ l
theorem co_sh (n : Nat) (l : List Int) (t : Nat) : co (sh n l) t = if t < n then 0 else co l (t - n) := by
  rw [sh, co_append, List.length_replicate]
  split
  · exact co_replicate _ _
  · rfl
theorem drop_co (l : List Int) (i : Nat) (h : i < l.length) : l.drop i = co l i :: l.drop (i + 1) := by rw [List.drop_eq_getElem_cons h, co_lt h]
theorem co_sh_term (m : Nat) (c : Int) (b : List Int) (j : Nat) (hj : j < b.length) (t : Nat) : co (sh m (psc c (b.drop j))) t = (if t = m then c * co b j else 0) + co (sh (m + 1) (psc c (b.drop (j + 1)))) t := by
  rw [co_sh, co_sh, drop_co b j hj]
  by_cases e : t = m
  · subst e
    rw [if_neg (by omega), if_pos rfl, if_pos (by omega), Nat.sub_self, co_psc, co_cons_zero]; omega
  · rw [if_neg e]
    by_cases e2 : t < m
    · rw [if_pos e2, if_pos (by omega)]; omega
    · rw [if_neg e2, if_neg (by omega), co_psc, co_psc, show t - m = (t - (m + 1)) + 1 by omega, co_cons_succ]; omega
theorem co_sh_row (a b : List Int) (i : Nat) (hi : i < a.length) (t : Nat) : co (sh i (pmul (a.drop i) b)) t = co (sh i (psc (co a i) b)) t + co (sh (i + 1) (pmul (a.drop (i + 1)) b)) t := by
  rw [co_sh, co_sh, co_sh, drop_co a i hi]
  by_cases e : t < i
  · rw [if_pos e, if_pos e, if_pos (by omega)]; omega
  · rw [if_neg e, if_neg e]
    by_cases e2 : t = i
    · subst e2; rw [if_pos (by omega), Nat.sub_self, co_pmul_zero', co_psc]; omega
    · rw [if_neg (by omega), show t - i = (t - (i + 1)) + 1 by omega, co_pmul_succ, co_psc]

def Rg (p : Int) (l : List Int) : Prop := ∀ i, 0 ≤ co l i ∧ co l i < p
theorem Rg.set {p : Int} {l : List Int} (h : Rg p l) {i : Nat} {x : Int} (hx : 0 ≤ x ∧ x < p) : Rg p (l.set i x) := fun j => by
  by_cases hi : i < l.length
  · rw [co_set hi]
    split
    · exact hx
    · exact h j
  · rw [List.set_eq_of_length_le (by omega)]; exact h j
theorem Rg.zeros {p : Int} (hp : 0 < p) (n : Nat) : Rg p (List.replicate n 0) := fun j => by rw [co_replicate]; omega
theorem Rg.eq {p : Int} {a b : List Int} (ha : Rg p a) (hb : Rg p b) (hl : a.length = b.length) (h : ∀ i, i < a.length → Cg p (co a i) (co b i)) : a = b :=
  ext_co hl fun i hi => (h i hi).uniq (ha i).1 (ha i).2 (hb i).1 (hb i).2
theorem Rg.U {f : Int} {p : Nat} (h : FO f p) {l : List Int} (hr : Rg p l) : UL l := fun c hc => by
  obtain ⟨i, hi, rfl⟩ := List.getElem_of_mem hc
  have := hr i
  rw [co_lt hi] at this
  have := h.lei
  unfold Pure.U; omega
theorem nrm_rg {p : Int} (hp : 0 < p) (l : List Int) : Rg p (nrm p l) := (nrm_nf hp l).rng
theorem nrm_UL {f : Int} {p : Nat} (h : FO f p) (l : List Int) : UL (nrm p l) := (nrm_rg h.pos l).U h
theorem pmul_nil_right (p : Int) (a : List Int) {b : List Int} (hb : EqP p b []) : EqP p (pmul a b) [] := fun i => by
  have hz : ∀ (a : List Int) (i : Nat), co (pmul a []) i = 0 := by
    intro a
    induction a with
    | nil => intro i; simp [pmul]
    | cons c a ih => intro i; cases i with
      | zero => rw [co_pmul_zero']; simp
      | succ i => rw [co_pmul_succ, ih]; simp
  have := (hb.pmul_right a) i
  rwa [hz] at this

theorem co_pmul_lin_zero (c : Int) : ∀ v : List Int, co (pmul v [c, 1]) 0 = c * co v 0
  | [] => by simp [pmul]
  | d :: v => by rw [co_pmul_zero']; simp; grind
theorem co_pmul_lin_succ (c : Int) : ∀ (v : List Int) (i : Nat), co (pmul v [c, 1]) (i + 1) = co v i + c * co v (i + 1)
  | [], i => by simp [pmul]
  | d :: v, 0 => by rw [co_pmul_succ, co_pmul_lin_zero]; simp
  | d :: v, i + 1 => by rw [co_pmul_succ, co_pmul_lin_succ c v i]; simp
theorem pmul_lin_comm (p x : Int) (v : List Int) : EqP p (pmul v [-x, 1]) (pmul [-x, 1] v) := fun i => by
  cases i with
  | zero => rw [co_pmul_lin_zero, co_lin_zero]; exact Cg.refl _ _
  | succ i => rw [co_pmul_lin_succ, co_lin_succ]; exact Cg.of_eq (by grind)
theorem padd_length : ∀ a b : List Int, (padd a b).length = max a.length b.length
  | [], b => by simp [padd]
  | x :: a, [] => by simp [padd]
  | x :: a, y :: b => by simp [padd, padd_length a b]
theorem nrm_map_mod (p : Int) (l : List Int) : nrm p (l.map (· % p)) = nrm p l := nrm_congr fun i => by rw [co_map_mod]; exact Cg.mod _ _
theorem map_mod_take_succ (p : Int) (l : List Int) (i : Nat) (hi : i < l.length) : (l.take (i + 1)).map (· % p) = (l.take i).map (· % p) ++ [co l i % p] := by
  rw [List.take_succ_eq_append_getElem hi, List.map_append, co_lt hi]; rfl

def IA (p : Int) (xs : List Int) : Prop := ∀ a b, b < a → a < xs.length → ¬ Cg p (co xs a) (co xs b)
theorem apart_iff {p : Int} : ∀ xs : List Int, Apart p xs ↔ IA p xs
  | [] => ⟨fun _ a b _ h => by simp at h, fun _ => trivial⟩
  | x :: l => by
    have ih := apart_iff (p := p) l
    constructor
    · intro h a b hb ha
      obtain ⟨a, rfl⟩ : ∃ a', a = a' + 1 := ⟨a - 1, by omega⟩
      have ha' : a < l.length := by simpa using ha
      cases b with
      | zero => rw [co_cons_succ, co_cons_zero]; exact fun c => h.1 _ (co_mem ha') c.symm
      | succ b => rw [co_cons_succ, co_cons_succ]; exact ih.1 h.2 a b (by omega) ha'
    · intro h
      refine ⟨fun y hy c => ?_, ih.2 fun a b hb ha => ?_⟩
      · obtain ⟨i, hi, rfl⟩ := List.getElem_of_mem hy
        have := h (i + 1) 0 (by omega) (by simpa using hi)
        rw [co_cons_succ, co_cons_zero, co_lt hi] at this
        exact this c.symm
      · have := h (a + 1) (b + 1) (by omega) (by simpa using ha)
        simpa using this
def Interp (p : Nat) (xs ys R : List Int) : Prop := Deg p R xs.length ∧ ∀ i, i < xs.length → Cg p (ev R (co xs i)) (co ys i)

section good
variable {f : Int} {p : Nat} (h : FP f p)
include h
theorem one_not_zero : ¬ Cg p (1 : Int) 0 := fun c => by
  have := c.mod_eq
  rw [Int.emod_eq_of_lt (by omega) h.one] at this
  simp at this
theorem interp_same {xs ys R R' : List Int} (ha : Apart p xs) (hr : Interp p xs ys R) (hr' : Interp p xs ys R') : nrm p R = nrm p R' := by
  refine nrm_congr (interp_uniq h.pr ha hr.1 hr'.1 fun x hx => ?_)
  obtain ⟨i, hi, rfl⟩ := List.getElem_of_mem hx
  rw [← co_lt hi]
  exact (hr.2 i hi).trans (hr'.2 i hi).symm
end good
def shf (s : Int) : List Int → List Int
  | [] => []
  | c :: t => c :: psc s (shf s t)
theorem co_shf (s : Int) : ∀ (l : List Int) (i : Nat), co (shf s l) i = co l i * s ^ i
  | [], i => by simp [shf]
  | c :: t, 0 => by simp [shf]
  | c :: t, i + 1 => by
    rw [shf, co_cons_succ, co_cons_succ, co_psc, co_shf s t i, Int.pow_succ]
    generalize s ^ i = u
    grind
theorem ev_shf (s x : Int) : ∀ l : List Int, ev (shf s l) x = ev l (s * x)
  | [] => rfl
  | c :: t => by
    rw [shf, ev, ev, ev_psc, ev_shf s x t]
    grind
end Go.Proofs.YthinfmfjpaikiaaDoor.Pure
namespace Go.Proofs.YthinfmfjpaikiaaDoor.Pure
open Go.RowKit Go.Proofs.YthinfmfjpaikiaaDoor.Num Go.Proofs.YthinfmfjpaikiaaDoor.Pol

def cofs (p u c t : Int) (v : List Int) (n : Nat) : List Int := (List.range n).map fun j => (ev v (u ^ j) * (c * t ^ j)) % p
theorem cofs_length (p u c t : Int) (v : List Int) (n : Nat) : (cofs p u c t v n).length = n := by simp [cofs]
theorem co_cofs {p u c t : Int} {v : List Int} {n j : Nat} (h : j < n) : co (cofs p u c t v n) j = (ev v (u ^ j) * (c * t ^ j)) % p := by
  rw [co_lt (by rw [cofs_length]; exact h)]; simp [cofs]
theorem pow_cancel {p s t : Int} (h : Cg p (s * t) 1) (x : Int) (j : Nat) : Cg p (x * s ^ j * t ^ j) x := by
  have := (Cg.refl p x).mul (pow_pair h j)
  rw [Int.mul_one, ← Int.mul_assoc] at this
  exact this
theorem vals_cofs {p w u c s t : Int} {k : Nat} (hw : Rt p w k) (hu : Cg p (w * u) 1) (hc : Cg p (c * ((2 ^ k : Nat) : Int)) 1) (ht : Cg p (s * t) 1) {v : List Int} (hv : v.length ≤ 2 ^ k) {i : Nat} (hi : i < 2 ^ k) :
    co (vals p w (shf s (cofs p u c t v (2 ^ k))) (2 ^ k)) i = co v i % p := by
  rw [co_vals hi]
  refine Cg.mod_eq ?_
  have h1 : EqP p (shf s (cofs p u c t v (2 ^ k))) (psc c (vals p u v (2 ^ k))) := fun j => by
    rw [co_shf, co_psc]
    by_cases hj : j < 2 ^ k
    · rw [co_cofs hj, co_vals hj]
      refine ((Cg.mod p _).mul (Cg.refl p _)).trans ?_
      refine Cg.trans ?_ ((Cg.refl p c).mul (Cg.mod p _).symm)
      have h2 := pow_cancel (Cg.trans (Cg.of_eq (Int.mul_comm t s)) ht) (ev v (u ^ j) * c) j
      refine (Cg.of_eq ?_).trans (h2.trans (Cg.of_eq (Int.mul_comm _ _)))
      rw [Int.mul_assoc, Int.mul_assoc, Int.mul_assoc, Int.mul_assoc]
    · rw [co_over (by rw [cofs_length]; omega), co_over (by rw [vals_length]; omega)]
      exact Cg.of_eq (by simp)
  refine (h1.ev _).trans ?_
  rw [ev_psc]
  have h3 := dft_inv (hw.inv hu) ((Cg.of_eq (Int.mul_comm u w)).trans hu) hv hi
  refine ((Cg.refl p c).mul h3).trans ?_
  rw [← Int.mul_assoc]
  have h4 := hc.mul (Cg.refl p (co v i))
  rwa [Int.one_mul] at h4
end Go.Proofs.YthinfmfjpaikiaaDoor.Pure
namespace Go.Proofs.YthinfmfjpaikiaaDoor.Pure
open Go.RowKit Go.Proofs.YthinfmfjpaikiaaDoor.Q Go.Proofs.YthinfmfjpaikiaaDoor.Num Go.Proofs.YthinfmfjpaikiaaDoor.Pol Go.Proofs.YthinfmfjpaikiaaDoorW.PrintWords Go.Proofs.YthinfmfjpaikiaaDoorW.PrintLast Go.Proofs.YthinfmfjpaikiaaDoorW.PrintMore

theorem bits_odd {n : Int} (h0 : 0 ≤ n) (h1 : n < 18446744073709551616) : Go.bits .and .u64 n 1 = n % 2 := Go.bits_mask .u64 64 (by decide) (fun n h0 h1 => wu64 h0 h1) 1 (by decide) n h0 h1
section good
variable {f : Int} {p : Nat} (h : FP f p)
include h
theorem pow_l0 : ∀ (m e : Nat) (a acc v : Int), e ≤ m → (e : Int) < 18446744073709551616 → 0 ≤ a → 0 ≤ acc → acc < p → Cg p v (acc * a ^ e) → Ev (fun k => field_Pow.l0 k f a e acc) (v % p) := by
  intro m
  induction m with
  | zero =>
    intro e a acc v he _ ha h0 h1 hv
    obtain rfl : e = 0 := by omega
    refine Ev.succ (F := fun _ => some (v % p)) (fun k => ?_) (Ev.all fun _ => rfl)
    rw [field_Pow.l0, if_neg (by omega)]
    rw [Int.pow_zero, Int.mul_one] at hv
    rw [hv.mod_eq, Int.emod_eq_of_lt h0 h1]
  | succ m ih =>
    intro e a acc v he hlt ha h0 h1 hv
    rcases Nat.eq_zero_or_pos e with rfl | hpos
    · refine Ev.succ (F := fun _ => some (v % p)) (fun k => ?_) (Ev.all fun _ => rfl)
      rw [field_Pow.l0, if_neg (by omega)]
      rw [Int.pow_zero, Int.mul_one] at hv
      rw [hv.mod_eq, Int.emod_eq_of_lt h0 h1]
    · obtain ⟨n, hn⟩ : ∃ n, n = e / 2 := ⟨_, rfl⟩
      have e2 : (e : Int) / 2 = (n : Int) := by omega
      have hb := bits_odd (n := (e : Int)) (by omega) hlt
      have hsq : ∀ w : Int, Cg p v (w * a ^ (n + n)) → Cg p v (w * (a * a % p) ^ n) := fun w hw => by
        refine hw.trans ((Cg.refl _ w).mul ?_)
        rw [← Nat.two_mul, Int.pow_mul]
        refine Cg.pow ?_ n
        have : a ^ 2 = a * a := by rw [Int.pow_succ, Int.pow_succ, Int.pow_zero, Int.one_mul]
        rw [this]
        exact (Cg.mod _ _).symm
      by_cases ho : (e : Int) % 2 = 1
      · have key := ih n (a * a % p) (acc * a % p) v (by omega) (by omega) (h.mod _).1 (h.mod _).1 (h.mod _).2 (hsq _ (by
          have e3 : e = n + n + 1 := by omega
          rw [e3, Int.pow_succ] at hv
          refine hv.trans ((Cg.of_eq ?_).trans ((Cg.mod _ _).symm.mul (Cg.refl _ _)))
          rw [Int.mul_comm (a ^ (n + n)) a, Int.mul_assoc]))
        refine Ev.succ (fun k => ?_) key
        rw [field_Pow.l0, if_pos (by omega), hb, if_pos ho, s_Mul h h0 ha, Option.bind_some, s_Mul h ha ha, Option.bind_some, e2]
      · have key := ih n (a * a % p) acc v (by omega) (by omega) (h.mod _).1 h0 h1 (hsq _ (by
          have e3 : e = n + n := by omega
          rw [e3] at hv
          exact hv))
        refine Ev.succ (fun k => ?_) key
        rw [field_Pow.l0, if_pos (by omega), hb, if_neg ho, s_Mul h ha ha, Option.bind_some, e2]
theorem s_Pow {a : Int} (ha : 0 ≤ a) (e : Nat) (he : (e : Int) < 18446744073709551616) : Ev (fun k => field_Pow.f k f a e) (a ^ e % p) := by
  refine Ev.congr (fun k => ?_) (pow_l0 h e e a 1 (a ^ e) (Nat.le_refl _) he ha (by omega) h.one (Cg.of_eq (Int.one_mul _).symm))
  rw [field_Pow.f, s_Valid h, Option.bind_some, if_pos rfl]
end good
end Go.Proofs.YthinfmfjpaikiaaDoor.Pure
namespace Go.Proofs.YthinfmfjpaikiaaDoor.Pure
open Go.RowKit Go.Proofs.YthinfmfjpaikiaaDoor.Q Go.Proofs.YthinfmfjpaikiaaDoor.Num Go.Proofs.YthinfmfjpaikiaaDoor.Pol Go.Proofs.YthinfmfjpaikiaaDoorW.PrintWords Go.Proofs.YthinfmfjpaikiaaDoorW.PrintLast Go.Proofs.YthinfmfjpaikiaaDoorW.PrintMore

theorem bco_co (l : List Int) (i : Nat) : bco l i = co l i := rfl
theorem evn_length : ∀ (l : List Int) (n : Nat), l.length ≤ 2 * n → (evn l).length ≤ n
  | [], n, _ => by simp [evn]
  | [c], n, h => by simp at h; simp [evn]; omega
  | c :: d :: t, n, h => by
    simp at h
    obtain ⟨m, rfl⟩ : ∃ m, n = m + 1 := ⟨n - 1, by omega⟩
    have := evn_length t m (by omega)
    simp [evn]; omega
theorem odn_length : ∀ (l : List Int) (n : Nat), l.length ≤ 2 * n → (odn l).length ≤ n
  | [], n, _ => by simp [odn]
  | [c], n, h => by simp [odn]
  | c :: d :: t, n, h => by
    simp at h
    obtain ⟨m, rfl⟩ : ∃ m, n = m + 1 := ⟨n - 1, by omega⟩
    have := odn_length t m (by omega)
    simp [odn]; omega
section good
variable {f : Int} {p : Nat} (h : FP f p)
include h
theorem bf_l0 {w : Int} {a : List Int} {k : Nat} (w0 : 0 ≤ w) (rt : Rt p w (k + 1)) : ∀ (d i : Nat) (lo hi : List Int) (pw : Int), i + d = 2 ^ k → lo.length = 2 ^ k → hi.length = 2 ^ k → 0 ≤ pw → Cg p pw (w ^ i) →
    (∀ j, j < 2 ^ k → co lo j = if j < i then ev a (w ^ j) % p else ev (evn a) ((w * w % p) ^ j) % p) → (∀ j, j < 2 ^ k → co hi j = if j < i then ev a (w ^ (2 ^ k + j)) % p else ev (odn a) ((w * w % p) ^ j) % p) →
    Ev (fun K => transform_butterflies.l0 K f w (2 ^ k) lo hi pw i) (vals p w a (2 ^ (k + 1))) := by
  intro d
  induction d with
  | zero =>
    intro i lo hi pw hi' h1 h2 _ _ hlo hhi
    refine Ev.succ (F := fun _ => some (vals p w a (2 ^ (k + 1)))) (fun K => ?_) (Ev.all fun _ => rfl)
    rw [transform_butterflies.l0, if_neg (by omega)]
    refine congrArg some (ext_co (by rw [List.length_append, vals_length, Nat.pow_succ]; omega) fun j hj => ?_)
    rw [List.length_append] at hj
    rw [co_vals (by rw [Nat.pow_succ]; omega), co_append]
    by_cases q : j < lo.length
    · rw [if_pos q, hlo j (by omega), if_pos (by omega)]
    · rw [if_neg q, hhi (j - lo.length) (by omega), if_pos (by omega), show 2 ^ k + (j - lo.length) = j by omega]
  | succ d ih =>
    intro i lo hi pw hi' h1 h2 p0 pc hlo hhi
    have hi2 : i < 2 ^ k := by omega
    have clo := hlo i hi2
    have chi := hhi i hi2
    rw [if_neg (by omega)] at clo chi
    have l0 : 0 ≤ co lo i := by rw [clo]; exact (h.mod _).1
    have h0 : 0 ≤ co hi i := by rw [chi]; exact (h.mod _).1
    have hsq : Cg p ((w * w % p) ^ i) (w ^ i * w ^ i) := by
      have := (Cg.mod (p : Int) (w * w)).pow i
      rwa [Int.mul_pow] at this
    have hE : Cg p (co lo i) (ev (evn a) (w ^ i * w ^ i)) := by rw [clo]; exact (Cg.mod _ _).trans (ev_arg hsq _)
    have hO : Cg p (pw * co hi i % p) (w ^ i * ev (odn a) (w ^ i * w ^ i)) := (Cg.mod _ _).trans (pc.mul (by rw [chi]; exact (Cg.mod _ _).trans (ev_arg hsq _)))
    have e1 : (co lo i + pw * co hi i % p) % p = ev a (w ^ i) % p := by
      refine Cg.mod_eq ((hE.add hO).trans (Cg.of_eq ?_))
      exact (ev_halves (w ^ i) a).symm
    have e2 : (co lo i - pw * co hi i % p) % p = ev a (w ^ (2 ^ k + i)) % p := by
      refine Cg.mod_eq ((hE.sub hO).trans ?_)
      have hn : Cg p (w ^ (2 ^ k + i)) (-1 * w ^ i) := by rw [Int.pow_add]; exact (rt k rfl).mul (Cg.refl _ _)
      have hnn : Cg p (w ^ (2 ^ k + i) * w ^ (2 ^ k + i)) (w ^ i * w ^ i) := (hn.mul hn).trans (Cg.of_eq (by grind))
      have g1 : Cg p (ev (evn a) (w ^ i * w ^ i)) (ev (evn a) (w ^ (2 ^ k + i) * w ^ (2 ^ k + i))) := ev_arg hnn.symm _
      have g2 : Cg p (-1 * w ^ i * ev (odn a) (w ^ i * w ^ i)) (w ^ (2 ^ k + i) * ev (odn a) (w ^ (2 ^ k + i) * w ^ (2 ^ k + i))) := hn.symm.mul (ev_arg hnn.symm _)
      have g3 := g1.add g2
      rw [← ev_halves] at g3
      exact (Cg.of_eq (by grind)).trans g3
    refine Ev.succ (fun K => ?_) (ih (i + 1) (lo.set i (ev a (w ^ i) % p)) (hi.set i (ev a (w ^ (2 ^ k + i)) % p)) (pw * w % p) (by omega) (by simpa using h1) (by simpa using h2) (h.mod _).1 (by rw [Int.pow_succ]; exact (Cg.mod _ _).trans (pc.mul (Cg.refl _ _))) (fun j hj => ?_) (fun j hj => ?_))
    · rw [transform_butterflies.l0, if_pos hi2, bco_co, bco_co, s_Mul h p0 h0, Option.bind_some, s_Add h l0 (h.mod _).1, Option.bind_some, s_Sub h l0 (h.mod _).1, Option.bind_some, s_Mul h p0 w0, Option.bind_some, e1, e2]
    · rw [co_set (by omega)]
      by_cases q : j = i
      · subst q; rw [if_pos rfl, if_pos (by omega)]
      · rw [if_neg q, hlo j hj]
        by_cases q2 : j < i
        · rw [if_pos q2, if_pos (by omega)]
        · rw [if_neg q2, if_neg (by omega)]
    · rw [co_set (by omega)]
      by_cases q : j = i
      · subst q; rw [if_pos rfl, if_pos (by omega)]
      · rw [if_neg q, hhi j hj]
        by_cases q2 : j < i
        · rw [if_pos q2, if_pos (by omega)]
        · rw [if_neg q2, if_neg (by omega)]
theorem s_bf : ∀ (k : Nat) (w : Int) (a l : List Int), 0 ≤ w → Rt p w k → a.length ≤ 2 ^ k → l.length = 2 ^ k → (∀ i, i < 2 ^ k → co l i = co a (rev k i) % p) → Ev (fun K => transform_butterflies.f K f l w) (vals p w a (2 ^ k))
  | 0, w, a, l, _, _, ha, hl, hc => by
    refine Ev.succ (F := fun _ => some (vals p w a (2 ^ 0))) (fun K => ?_) (Ev.all fun _ => rfl)
    rw [transform_butterflies.f, if_pos (by simpa using hl)]
    refine congrArg some (ext_co (by rw [vals_length]; exact hl) fun i hi => ?_)
    obtain rfl : i = 0 := by simp at hl; omega
    rw [co_vals (by simp), hc 0 (by simp), rev, Int.pow_zero]
    congr 1
    rw [Nat.pow_zero] at ha
    match a, ha with
    | [], _ => simp [ev]
    | [c], _ => simp [ev]
    | _ :: _ :: _, ha => simp at ha
  | k + 1, w, a, l, w0, rt, ha, hl, hc => by
    have e2 : 2 ^ (k + 1) / 2 = 2 ^ k := by rw [Nat.pow_succ]; omega
    have hp : 0 < 2 ^ k := Nat.pow_pos (by omega)
    have ha2 : a.length ≤ 2 * 2 ^ k := by rw [Nat.pow_succ] at ha; omega
    have rs : Rt p (w * w % p) k := rt.sq.congr (Cg.mod _ _).symm
    have i1 := s_bf k (w * w % p) (evn a) (l.take (2 ^ k)) (h.mod _).1 rs (evn_length a _ ha2) (by rw [List.length_take, hl, Nat.pow_succ]; omega) (fun i hi => by rw [co_take, if_pos hi, hc i (by rw [Nat.pow_succ]; omega), rev_low hi, co_evn])
    have i2 := s_bf k (w * w % p) (odn a) (l.drop (2 ^ k)) (h.mod _).1 rs (odn_length a _ ha2) (by rw [List.length_drop, hl, Nat.pow_succ]; omega) (fun i hi => by rw [co_drop, hc (2 ^ k + i) (by rw [Nat.pow_succ]; omega), rev_high hi, co_odn])
    have i3 := bf_l0 h (a := a) w0 rt (2 ^ k) 0 (vals p (w * w % p) (evn a) (2 ^ k)) (vals p (w * w % p) (odn a) (2 ^ k)) 1 (by omega) (vals_length ..) (vals_length ..) (by omega) (Cg.of_eq (Int.pow_zero w).symm) (fun j hj => by rw [if_neg (by omega), co_vals hj]) (fun j hj => by rw [if_neg (by omega), co_vals hj])
    obtain ⟨K1, k1⟩ := Ev.get i1
    obtain ⟨K2, k2⟩ := Ev.get i2
    obtain ⟨K3, k3⟩ := Ev.get i3
    refine Ev.mks (K1 + K2 + K3) fun K hK => ?_
    rw [transform_butterflies.f, if_neg (by omega), s_Mul h w0 w0, Option.bind_some, hl, e2, k1 K (by omega), Option.bind_some, k2 K (by omega), Option.bind_some]
    exact k3 K (by omega)
end good

theorem rev_all : ((List.range 11).all fun k => (List.range (2 ^ k)).all fun i => bits_Reverse64.f (IntKind.u64.wrap (i : Int)) == (some (match bits_Reverse64.f (IntKind.u64.wrap (i : Int)) with | some r => r | none => 0)) && (wrap64 ((match bits_Reverse64.f (IntKind.u64.wrap (i : Int)) with | some r => r | none => 0) / 2 ^ (64 - (k : Int)).toNat) == ((rev k i : Nat) : Int))) = true := by decide +kernel
theorem s_rev {k i : Nat} (hk : k ≤ 10) (hi : i < 2 ^ k) : ∃ r, bits_Reverse64.f (IntKind.u64.wrap (i : Int)) = some r ∧ wrap64 (r / 2 ^ (64 - (k : Int)).toNat) = ((rev k i : Nat) : Int) := by
  have h1 := List.all_eq_true.1 rev_all k (List.mem_range.2 (by omega))
  have h2 := List.all_eq_true.1 h1 i (List.mem_range.2 hi)
  rw [Bool.and_eq_true, beq_iff_eq, beq_iff_eq] at h2
  exact ⟨_, h2.1, h2.2⟩
theorem s_tz {k : Nat} (hk : k < 63) : bits_TrailingZeros.f ((2 ^ k : Nat) : Int) = some (k : Int) := by
  have e : bits_TrailingZeros64.f ((2 ^ k : Nat) : Int) = some (k : Int) := by
    have := tz64_pow hk
    rw [Int.natCast_pow]
    exact this
  rw [bits_TrailingZeros.f, e, Option.bind_some]
def reo (p : Nat) (k : Nat) (l : List Int) : List Int := (List.range (2 ^ k)).map fun j => co l (rev k j) % p
theorem reo_length (p k : Nat) (l : List Int) : (reo p k l).length = 2 ^ k := by simp [reo]
theorem co_reo {p k : Nat} {l : List Int} {i : Nat} (h : i < 2 ^ k) : co (reo p k l) i = co l (rev k i) % p := by
  rw [co_lt (by rw [reo_length]; exact h)]; simp [reo]
section good
variable {f : Int} {p : Nat} (h : FP f p)
include h
theorem reo_l0 {l : List Int} {k : Nat} (hk : k ≤ 10) (hl : l.length = 2 ^ k) (hu : UL l) : ∀ (d i : Nat) (x : List Int), i + d = 2 ^ k → x.length = 2 ^ k → (∀ j, j < 2 ^ k → co (reo p k l) j = if i ≤ j then co l (rev k j) % p else co x j) → Ev (fun K => transform_reordered.l0 K f k l x i) (reo p k l) := by
  intro d
  induction d with
  | zero =>
    intro i x hi hx hy
    have e : reo p k l = x := ext_co (by rw [reo_length, hx]) fun j hj => by rw [reo_length] at hj; rw [hy j hj, if_neg (by omega)]
    refine Ev.succ (F := fun _ => some (reo p k l)) (fun K => ?_) (Ev.all fun _ => rfl)
    rw [transform_reordered.l0, if_neg (by omega), e]
  | succ d ih =>
    intro i x hi hx hy
    have hi2 : i < 2 ^ k := by omega
    obtain ⟨r, e1, e2⟩ := s_rev hk hi2
    have hr := rev_lt k i hi2
    refine Ev.succ (fun K => ?_) (ih (i + 1) (x.set i (co l (rev k i) % p)) (by omega) (by simpa using hx) (fun j hj => ?_))
    · rw [transform_reordered.l0, if_pos (by omega), e1, Option.bind_some, e2, if_pos ⟨Int.natCast_nonneg _, Int.ofNat_lt.2 (by omega)⟩, rd_nat, s_Reduce h (U.co hu _).1, Option.bind_some]
    · rw [hy j hj, co_set (by omega)]
      by_cases q : j = i
      · subst q; rw [if_pos (Nat.le_refl _), if_neg (by omega), if_pos rfl]
      · rw [if_neg q]
        by_cases q2 : i ≤ j
        · rw [if_pos q2, if_pos (by omega)]
        · rw [if_neg q2, if_neg (by omega)]
theorem s_reo {l : List Int} {k : Nat} (hk : k ≤ 10) (hl : l.length = 2 ^ k) (hu : UL l) : Ev (fun K => transform_reordered.f K f l) (reo p k l) := by
  have hp : 2 ^ k ≤ 2 ^ 10 := Nat.pow_le_pow_right (by omega) hk
  have e10 : 2 ^ 10 = 1024 := rfl
  refine Ev.congr (fun K => ?_) (reo_l0 h hk hl hu (2 ^ k) 0 (List.replicate (2 ^ k) 0) (by omega) (by simp) (fun j hj => by rw [co_reo hj, if_pos (Nat.zero_le _)]))
  rw [transform_reordered.f, hl, s_tz (by omega), Option.bind_some, if_pos ⟨Int.natCast_nonneg _, by omega, by omega⟩]
end good
theorem s_Twos (f : Int) : field_Twos.f f = some (tOf f) := rfl
theorem s_greatest (f : Int) : transform_greatest.f f = some (mn (tOf f) 18) := by rw [transform_greatest.f, s_Twos, Option.bind_some]
def wr (f : Int) (p k : Nat) : Int := gOf f ^ ((p - 1) / 2 ^ k) % p
theorem half0 : field_Pow.f 12 0 5 ((48 : Nat) : Int) = some 96 := by decide +kernel
theorem half1 : field_Pow.f 12 1 3 ((128 : Nat) : Int) = some 256 := by decide +kernel
theorem half2 : field_Pow.f 20 2 11 ((6144 : Nat) : Int) = some 12288 := by decide +kernel
theorem half3 : field_Pow.f 40 3 3 ((499122176 : Nat) : Int) = some 998244352 := by decide +kernel
theorem half_of {f : Int} {p : Nat} (h : FP f p) {g : Int} (g0 : 0 ≤ g) {K e : Nat} (he : e < 1000000000) {v : Int} (hv : field_Pow.f K f g ((e : Nat) : Int) = some v) (hp : v = (p : Int) - 1) : Cg p (g ^ e) (-1) := by
  have e1 := (s_Pow h g0 e (by omega)).uniq (Ev.of_mono (fun k => field_Pow.mono _ _ _ k) hv)
  refine (Cg.mod (p : Int) (g ^ e)).symm.trans ?_
  rw [e1, hp]
  exact ⟨1, by omega⟩
theorem gOf_nn (f : Int) : 0 ≤ gOf f := by unfold gOf; split <;> (try split) <;> (try split) <;> (try split) <;> omega
theorem wr_half_aux {f : Int} {p : Nat} (h : FP f p) : ∃ t m : Nat, tOf f = t ∧ 1 ≤ t ∧ p - 1 = 2 ^ t * m ∧ Cg p (gOf f ^ ((p - 1) / 2)) (-1) := by
  have h0 := h.lo
  have h1 := h.hi
  have h2 := h.eq
  have : f = 0 ∨ f = 1 ∨ f = 2 ∨ f = 3 := by omega
  rcases this with rfl | rfl | rfl | rfl
  · obtain rfl : p = 97 := by simp [pOf] at h2; omega
    exact ⟨5, 3, rfl, by omega, rfl, half_of h (by decide) (by decide) half0 rfl⟩
  · obtain rfl : p = 257 := by simp [pOf] at h2; omega
    exact ⟨8, 1, rfl, by omega, rfl, half_of h (by decide) (by decide) half1 rfl⟩
  · obtain rfl : p = 12289 := by simp [pOf] at h2; omega
    exact ⟨12, 3, rfl, by omega, rfl, half_of h (by decide) (by decide) half2 rfl⟩
  · obtain rfl : p = 998244353 := by simp [pOf] at h2; omega
    exact ⟨23, 119, rfl, by omega, rfl, half_of h (by decide) (by decide) half3 rfl⟩
section good
variable {f : Int} {p : Nat} (h : FP f p)
include h
theorem wr_dvd {k : Nat} (hk : (k : Int) ≤ tOf f) : (p - 1) / 2 ^ k * 2 ^ k = p - 1 := by
  obtain ⟨t, m, e1, _, e3, _⟩ := wr_half_aux h
  rw [e3]
  refine Nat.div_mul_cancel (Nat.dvd_trans (Nat.pow_dvd_pow 2 (by omega)) (Nat.dvd_mul_right _ _))
theorem wr_rt {k : Nat} (hk : (k : Int) ≤ tOf f) : Rt p (wr f p k) k := fun j hj => by
  obtain ⟨t, m, e1, e2, e3, e4⟩ := wr_half_aux h
  have hd := wr_dvd h hk
  refine ((Cg.mod (p : Int) _).pow _).trans ?_
  rw [← Int.pow_mul]
  have e5 : (p - 1) / 2 ^ k * 2 ^ j = (p - 1) / 2 := by
    subst hj
    generalize (p - 1) / 2 ^ (j + 1) = u at hd ⊢
    rw [Nat.pow_succ, ← Nat.mul_assoc] at hd
    omega
  rw [e5]
  exact e4
theorem wr_nn (k : Nat) : 0 ≤ wr f p k := (h.mod _).1
theorem wr_unit {k : Nat} : ¬ Cg p (wr f p k) 0 := fun hc => by
  have g1 : Cg p (gOf f ^ ((p - 1) / 2 ^ k)) 0 := (Cg.mod _ _).symm.trans hc
  obtain ⟨t, m, e1, e2, e3, e4⟩ := wr_half_aux h
  have hg : Cg p (gOf f) 0 := by
    generalize (p - 1) / 2 ^ k = e at g1
    induction e with
    | zero => rw [Int.pow_zero] at g1; exact absurd g1 (one_not_zero h)
    | succ e ih =>
      rw [Int.pow_succ] at g1
      rcases h.pr.int g1 with q | q
      · exact ih q
      · exact q
  have e5 := hg.pow ((p - 1) / 2)
  have h3 := h.three
  rw [Int.zero_pow (by omega)] at e5
  have := (e5.symm.trans e4).neg
  rw [Int.neg_zero] at this
  exact one_not_zero h (this.symm)
theorem s_Root {k : Nat} (hk : (k : Int) ≤ tOf f) : Ev (fun K => field_Root.f K f (k : Int)) (wr f p k) := by
  have hp := h.pos
  have hl := h.lei
  obtain ⟨t, m, e1, _⟩ := wr_half_aux h
  have ht : t ≤ 64 := by
    have : tOf f ≤ 23 := by unfold tOf; split <;> (try split) <;> (try split) <;> (try split) <;> omega
    omega
  have e : IntKind.u64.wrap (pOf f - 1) / 2 ^ min (k : Int).toNat 64 = (((p - 1) / 2 ^ k : Nat) : Int) := by
    rw [h.eq, wu64 (by omega) (by omega), Int.toNat_natCast, Nat.min_eq_left (by omega), show (p : Int) - 1 = ((p - 1 : Nat) : Int) by omega, Int.natCast_ediv, Int.natCast_pow]
    rfl
  refine Ev.congr (fun K => ?_) (s_Pow h (gOf_nn f) ((p - 1) / 2 ^ k) (by have := Nat.div_le_self (p - 1) (2 ^ k); omega))
  rw [field_Root.f, if_neg (by rw [h.eq]; omega), if_neg (by omega), if_neg (by omega), e]
end good
end Go.Proofs.YthinfmfjpaikiaaDoor.Pure
namespace Go.Proofs.YthinfmfjpaikiaaDoor.Pure
open Go.RowKit Go.Proofs.YthinfmfjpaikiaaDoor.Q Go.Proofs.YthinfmfjpaikiaaDoor.Num Go.Proofs.YthinfmfjpaikiaaDoor.Pol Go.Proofs.YthinfmfjpaikiaaDoorW.PrintWords Go.Proofs.YthinfmfjpaikiaaDoorW.PrintLast Go.Proofs.YthinfmfjpaikiaaDoorW.PrintMore

section any
variable {f : Int} {p : Nat} (h : FO f p)
include h
end any
end Go.Proofs.YthinfmfjpaikiaaDoor.Pure
namespace Go.Proofs.YthinfmfjpaikiaaDoor.Pure
open Go.RowKit Go.Proofs.YthinfmfjpaikiaaDoor.Q Go.Proofs.YthinfmfjpaikiaaDoor.Num Go.Proofs.YthinfmfjpaikiaaDoor.Pol Go.Proofs.YthinfmfjpaikiaaDoorW.PrintWords Go.Proofs.YthinfmfjpaikiaaDoorW.PrintLast Go.Proofs.YthinfmfjpaikiaaDoorW.PrintMore

def gr (f : Int) : Int := mn (tOf f) 18
theorem gr_le (f : Int) : 0 ≤ gr f ∧ gr f ≤ tOf f ∧ gr f ≤ 18 := by
  unfold gr mn tOf
  split <;> (repeat' split) <;> omega
theorem s_gr (f : Int) : transform_greatest.f f = some (gr f) := s_greatest f
theorem pow10 {k : Nat} (hk : k ≤ 10) : 2 ^ k ≤ 1024 := Nat.pow_le_pow_right (by omega) hk
theorem shl_tab : ((List.range 31).all fun k => shl .i64 1 ((k : Nat) : Int) == ((2 ^ k : Nat) : Int)) = true := by decide +kernel
theorem s_shl {k : Nat} (hk : k ≤ 30) : shl .i64 1 (k : Int) = ((2 ^ k : Nat) : Int) := by
  have := List.all_eq_true.1 shl_tab k (List.mem_range.2 (by omega))
  exact beq_iff_eq.1 this
theorem and_tab : ((List.range 31).all fun k => Go.bits .and .i64 ((2 ^ k : Nat) : Int) (wrap64 (((2 ^ k : Nat) : Int) - 1)) == 0) = true := by decide +kernel
theorem s_and {k : Nat} (hk : k ≤ 30) : Go.bits .and .i64 ((2 ^ k : Nat) : Int) (wrap64 (((2 ^ k : Nat) : Int) - 1)) = 0 := by
  have := List.all_eq_true.1 and_tab k (List.mem_range.2 (by omega))
  exact beq_iff_eq.1 this
theorem s_exp (f : Int) {k n : Nat} (hk : k ≤ 10) (hn : n = 2 ^ k) : Ev (fun K => transform_exponent.f K f n) ((k : Int), decide ((k : Int) ≤ gr f)) := by
  have h1 : 0 < 2 ^ k := Nat.pow_pos (by omega)
  have h2 := pow10 hk
  refine Ev.mks 0 fun K _ => ?_
  subst hn
  rw [transform_exponent.f, if_neg (by omega), s_and (by omega), transform_exponent.j0, if_neg (by decide), wu64 (by omega) (by omega), s_tz (by omega), Option.bind_some, s_gr, Option.bind_some]
section bad
variable {f : Int} (h : f < 0 ∨ 4 ≤ f)
include h
end bad
section good
variable {f : Int} {p : Nat} (h : FP f p)
include h
theorem coefs_l0 {c t : Int} {v : List Int} {n : Nat} (hn : n ≤ 1024) (t0 : 0 ≤ t) : ∀ (d i : Nat) (x : List Int) (sc : Int), i + d = n → x.length = n → 0 ≤ sc → Cg p sc (c * t ^ i) → ∀ u : Int, (∀ j, j < n → co x j = if i ≤ j then ev v (u ^ j) % p else (ev v (u ^ j) * (c * t ^ j)) % p) →
    Ev (fun K => transform_Coefficients.l0 K f x sc t n i) (cofs p u c t v n, 0) := by
  intro d
  induction d with
  | zero =>
    intro i x sc hi hx _ _ u hc
    have e : cofs p u c t v n = x := ext_co (by rw [cofs_length, hx]) fun j hj => by rw [cofs_length] at hj; rw [co_cofs hj, hc j hj, if_neg (by omega)]
    refine Ev.mks 0 fun K _ => ?_
    rw [transform_Coefficients.l0, if_neg (by omega), e]
  | succ d ih =>
    intro i x sc hi hx s0 sc1 u hc
    have hii : i < n := by omega
    have ci := hc i hii
    rw [if_pos (Nat.le_refl _)] at ci
    have c0 : 0 ≤ co x i := by rw [ci]; exact (h.mod _).1
    refine Ev.succ (fun K => ?_) (ih (i + 1) (x.set i (co x i * sc % p)) (sc * t % p) (by omega) (by simpa using hx) (h.mod _).1 (by rw [Int.pow_succ, ← Int.mul_assoc]; exact (Cg.mod _ _).trans (sc1.mul (Cg.refl _ _))) u (fun j hj => ?_))
    · rw [transform_Coefficients.l0, if_pos (Int.ofNat_lt.2 hii), if_pos (Int.natCast_nonneg _), hx, if_pos (Int.ofNat_lt.2 hii), rd_nat, s_Mul h c0 s0, Option.bind_some, s_Mul h s0 t0, Option.bind_some, w64_succ (by omega), Int.toNat_natCast]
    · rw [co_set (by omega)]
      by_cases q : j = i
      · subst q
        rw [if_pos rfl, if_neg (by omega), ci]
        exact Cg.mod_eq ((Cg.mod _ _).mul sc1)
      · rw [if_neg q, hc j hj]
        by_cases q2 : i ≤ j
        · rw [if_pos q2, if_pos (by omega)]
        · rw [if_neg q2, if_neg (by omega)]
theorem s_Coefs {k : Nat} (hk : k ≤ 10) (hg : (k : Int) ≤ gr f) {s : Int} (hs : 0 ≤ s) (h0 : s % p ≠ 0) {v : List Int} (hv : v.length = 2 ^ k) (hu : UL v) :
    Ev (fun K => transform_Coefficients.f K f s v) (cofs p (inv p (wr f p k)) (inv p ((2 ^ k : Nat) : Int)) (inv p s) v (2 ^ k), 0) := by
  have hb := gr_le f
  have h2 := pow10 hk
  have hw := inv_spec h.pr (wr_unit h (k := k))
  obtain ⟨K1, k1⟩ := Ev.get (s_exp f hk hv)
  obtain ⟨K2, k2⟩ := Ev.get (s_reo h hk hv hu)
  obtain ⟨K3, k3⟩ := Ev.get (s_Root h (k := k) (by omega))
  obtain ⟨K4, k4⟩ := Ev.get (s_Inv h (wr_nn h k))
  obtain ⟨K5, k5⟩ := Ev.get (s_bf h k (inv p (wr f p k)) v (reo p k v) (inv_nn h.pr _) ((wr_rt h (by omega)).inv hw) (by omega) (reo_length ..) (fun i hi => by rw [co_reo hi]))
  obtain ⟨K6, k6⟩ := Ev.get (s_Inv h (a := ((2 ^ k : Nat) : Int)) (Int.natCast_nonneg _))
  obtain ⟨K7, k7⟩ := Ev.get (s_Inv h hs)
  obtain ⟨K8, k8⟩ := Ev.get (coefs_l0 h (c := inv p ((2 ^ k : Nat) : Int)) (t := inv p s) (v := v) h2 (inv_nn h.pr _) (2 ^ k) 0 (vals p (inv p (wr f p k)) v (2 ^ k)) (inv p ((2 ^ k : Nat) : Int)) (by omega) (vals_length ..) (inv_nn h.pr _) (Cg.of_eq (by simp)) (inv p (wr f p k)) (fun j hj => by rw [if_pos (Nat.zero_le _), co_vals hj]))
  refine Ev.mk (K1 + K2 + K3 + K4 + K5 + K6 + K7 + K8) fun K hK => ?_
  rw [transform_Coefficients.f, s_Reduce h hs, Option.bind_some, if_neg h0, k1 K (by omega), Option.bind_some, if_pos (decide_eq_true hg), k2 K (by omega), Option.bind_some, k3 K (by omega), Option.bind_some, k4 K (by omega), Option.bind_some, k5 K (by omega), Option.bind_some, hv, wu64 (by omega) (by omega), k6 K (by omega), Option.bind_some, k7 K (by omega), Option.bind_some, vals_length]
  exact k8 K (by omega)
theorem cofs_UL (u c t : Int) (v : List Int) (n : Nat) : UL (cofs p u c t v n) := fun x hx => by
  obtain ⟨j, hj, rfl⟩ := List.mem_map.1 hx
  exact h.U _
end good
end Go.Proofs.YthinfmfjpaikiaaDoor.Pure
namespace Go.Proofs.YthinfmfjpaikiaaDoor.Pure
open Go.RowKit Go.Proofs.YthinfmfjpaikiaaDoor.Q Go.Proofs.YthinfmfjpaikiaaDoor.Num Go.Proofs.YthinfmfjpaikiaaDoor.Pol Go.Proofs.YthinfmfjpaikiaaDoorW.PrintWords Go.Proofs.YthinfmfjpaikiaaDoorW.PrintLast Go.Proofs.YthinfmfjpaikiaaDoorW.PrintMore

structure Dm (f : Int) (p k : Nat) (s : Int) : Prop where
  h : FP f p
  hg : (k : Int) ≤ gr f
  s0 : 0 < s
  sp : s < p
theorem s_cgr (f : Int) : code_greatest.f f = some (gr f) := by rw [code_greatest.f, s_Twos, Option.bind_some]; rfl
def pnt (f : Int) (p k : Nat) (s : Int) (i : Nat) : Int := s * (wr f p k ^ i % p) % p
def fib (l : List Int) (n i : Nat) : List Int := (List.range 8).map fun j => co l (i + j * n)
theorem fib_length (l : List Int) (n i : Nat) : (fib l n i).length = 8 := by simp [fib]
theorem co_fib {l : List Int} {n i j : Nat} (h : j < 8) : co (fib l n i) j = co l (i + j * n) := by
  rw [co_lt (by rw [fib_length]; exact h)]; simp [fib]
theorem fib_UL {l : List Int} (h : UL l) (n i : Nat) : UL (fib l n i) := fun x hx => by
  obtain ⟨j, _, rfl⟩ := List.mem_map.1 hx
  exact U.co h _
def loc (f : Int) (p k : Nat) (s : Int) (l : List Int) (i : Nat) : List Int := cofs p (inv p (wr f p 3)) (inv p 8) (inv p (pnt f p k s i)) (fib l (2 ^ k / 8) i) 8
theorem loc_length (f : Int) (p k : Nat) (s : Int) (l : List Int) (i : Nat) : (loc f p k s l i).length = 8 := cofs_length _ _ _ _ _ _
section dom
variable {f : Int} {p k : Nat} {s : Int} (z : Dm f p k s)
include z
theorem Dm.unit : s % p ≠ 0 := by
  have h0 := z.s0
  have h1 := z.sp
  rw [Int.emod_eq_of_lt (by omega) h1]
  omega
theorem Dm.valid : code_Valid.f f k s = some true := by
  have h0 := z.s0
  have h1 := z.sp
  have h2 := z.hg
  rw [code_Valid.f, s_Valid z.h, Option.bind_some, if_pos rfl, if_pos (by omega), s_cgr, Option.bind_some, if_pos h2, if_pos h0, s_P z.h, Option.bind_some, decide_eq_true h1]
theorem Dm.k18 : k ≤ 18 := by have := gr_le f; have := z.hg; omega
theorem Dm.size : code_Size.f f k s = some ((2 ^ k : Nat) : Int) := by
  have := z.k18
  rw [code_Size.f, z.valid, Option.bind_some, if_pos rfl, if_pos (Int.natCast_nonneg _), s_shl (by omega)]
theorem Dm.isw (l : List Int) : code_isWord.f f k s l = some ((l.length : Int) == ((2 ^ k : Nat) : Int)) := by
  rw [code_isWord.f, z.valid, Option.bind_some, if_pos rfl, z.size, Option.bind_some]
theorem Dm.p18 : 2 ^ k ≤ 262144 := Nat.pow_le_pow_right (n := 2) (by omega) z.k18
theorem Dm.Point {i : Nat} (hi : i < 2 ^ k) : Ev (fun K => code_Point.f K f k s i) (pnt f p k s i) := by
  have h18 := z.p18
  have hb := gr_le f
  have hg := z.hg
  obtain ⟨K1, k1⟩ := Ev.get (s_Root z.h (k := k) (by omega))
  obtain ⟨K2, k2⟩ := Ev.get (s_Pow z.h (wr_nn z.h k) i (by omega))
  refine Ev.mk (K1 + K2 + 1) fun K hK => ?_
  obtain ⟨K, rfl⟩ : ∃ K', K = K' + 1 := ⟨K - 1, by omega⟩
  have nge : ¬ ((i : Int) ≥ ((2 ^ k : Nat) : Int)) := fun c => by have := Int.ofNat_le.1 c; omega
  rw [code_Point.f, if_neg (by omega), z.size, Option.bind_some, decide_eq_false nge, code_Point.j0, if_neg (by decide), k1 K (by omega), Option.bind_some, wu64 (by omega) (by omega), k2 K (by omega), Option.bind_some, s_Mul z.h (by have := z.s0; omega) (z.h.mod _).1, Option.bind_some]
  rfl
theorem Dm.pnt_nn (i : Nat) : 0 ≤ pnt f p k s i := (z.h.mod _).1
theorem Dm.pnt_cg (i : Nat) : Cg p (pnt f p k s i) (s * wr f p k ^ i) := have _ := z; (Cg.mod _ _).trans ((Cg.refl _ s).mul (Cg.mod _ _))
theorem Dm.pnt_unit (i : Nat) : pnt f p k s i % p ≠ 0 := fun c => by
  have h := z.h
  have c1 := (z.pnt_cg i).symm.trans (mod_eq_zero.1 c)
  rcases h.pr.int c1 with q | q
  · exact z.unit (mod_eq_zero.2 q)
  · clear c c1
    induction i with
    | zero => rw [Int.pow_zero] at q; exact one_not_zero h q
    | succ i ih =>
      rw [Int.pow_succ] at q
      rcases h.pr.int q with q | q
      · exact ih q
      · exact wr_unit h q
theorem three_gr : ((3 : Nat) : Int) ≤ gr f := by
  have h0 := z.h.lo
  have h1 := z.h.hi
  have : f = 0 ∨ f = 1 ∨ f = 2 ∨ f = 3 := by omega
  rcases this with e | e | e | e <;> rw [e] <;> decide
theorem local_l0 {l : List Int} {n i : Nat} (hl : l.length = 8 * n) (hn : n ≤ 32768) (hi : i < n) : ∀ (d j : Nat) (x : List Int), j + d = 8 → x.length = 8 → (∀ t, t < 8 → co (fib l n i) t = if j ≤ t then co l (i + t * n) else co x t) → Ev (fun K => code_local.l0 K l i x j) (fib l n i) := by
  have _ := z
  intro d
  induction d with
  | zero =>
    intro j x hj hx hc
    have e : fib l n i = x := ext_co (by rw [fib_length, hx]) fun t ht => by rw [fib_length] at ht; rw [hc t ht, if_neg (by omega)]
    refine Ev.mks 0 fun K _ => ?_
    rw [code_local.l0, if_neg (by omega), e]
  | succ d ih =>
    intro j x hj hx hc
    have hj8 : j < 8 := by omega
    have hjn : j * n ≤ 7 * n := Nat.mul_le_mul_right n (by omega)
    have e1 : wrap64 ((i : Int) + wrap64 (Int.tdiv (wrap64 ((j : Int) * (l.length : Int))) 8)) = ((i + j * n : Nat) : Int) := by
      have e2 : (j : Int) * (l.length : Int) = 8 * ((j * n : Nat) : Int) := by
        rw [hl, Int.natCast_mul, Int.natCast_mul]; grind
      rw [e2, w64 (n := 8 * ((j * n : Nat) : Int)) (by omega) (by omega), Int.tdiv_eq_ediv_of_nonneg (by omega), Int.mul_ediv_cancel_left _ (by omega), w64 (n := ((j * n : Nat) : Int)) (by omega) (by omega), w64 (by omega) (by omega)]
      omega
    have hlt : i + j * n < l.length := by omega
    refine Ev.succ (fun K => ?_) (ih (j + 1) (x.set j (co l (i + j * n))) (by omega) (by simpa using hx) (fun t ht => ?_))
    · rw [code_local.l0, if_pos hj8, e1, if_pos ⟨Int.natCast_nonneg _, Int.ofNat_lt.2 hlt⟩, rd_nat]
    · rw [hc t ht, co_set (by omega)]
      by_cases q : t = j
      · subst q; rw [if_pos (Nat.le_refl _), if_neg (by omega), if_pos rfl]
      · rw [if_neg q]
        by_cases q2 : j ≤ t
        · rw [if_pos q2, if_pos (by omega)]
        · rw [if_neg q2, if_neg (by omega)]
theorem Dm.Local (h3 : 3 ≤ k) {l : List Int} (hl : l.length = 2 ^ k) (ul : UL l) {i : Nat} (hi : i < 2 ^ k / 8) : Ev (fun K => code_Local.f K f k s l i) (loc f p k s l i) := by
  have h18 := z.p18
  have he : 2 ^ k = 8 * (2 ^ k / 8) := by
    obtain ⟨m, rfl⟩ : ∃ m, k = 3 + m := ⟨k - 3, by omega⟩
    rw [Nat.pow_add]; omega
  obtain ⟨K1, k1⟩ := Ev.get (local_l0 z (l := l) (n := 2 ^ k / 8) (i := i) (by omega) (by omega) hi 8 0 (List.replicate 8 0) rfl rfl (fun t ht => by rw [co_fib ht, if_pos (Nat.zero_le _)]))
  obtain ⟨K2, k2⟩ := Ev.get (z.Point (i := i) (by omega))
  obtain ⟨K3, k3⟩ := Ev.get (s_Coefs z.h (k := 3) (by omega) (three_gr z) (z.pnt_nn i) (z.pnt_unit i) (fib_length l (2 ^ k / 8) i) (fib_UL ul _ _))
  refine Ev.mk (K1 + K2 + K3) fun K hK => ?_
  have e8 : (l.length : Int) == ((2 ^ k : Nat) : Int) := by rw [hl]; exact beq_self_eq_true _
  have hq : ¬ ((i : Int) ≥ (l.length : Int) / 8) := by rw [hl]; omega
  rw [code_Local.f, z.isw, Option.bind_some, if_pos e8, if_neg (by omega), if_neg (by omega), if_neg hq, code_local.f, k1 K (by omega), Option.bind_some, k2 K (by omega), Option.bind_some, k3 K (by omega), Option.bind_some]
  have := cpyAt_full (loc f p k s l i)
  rw [loc_length] at this
  exact congrArg some this
theorem Dm.loc_UL (l : List Int) (i : Nat) : UL (loc f p k s l i) := cofs_UL z.h _ _ _ _ _
end dom
end Go.Proofs.YthinfmfjpaikiaaDoor.Pure
namespace Go.Proofs.YthinfmfjpaikiaaDoor.Pure
open Go.RowKit Go.Proofs.YthinfmfjpaikiaaDoor.Q Go.Proofs.YthinfmfjpaikiaaDoor.Num Go.Proofs.YthinfmfjpaikiaaDoor.Pol Go.Proofs.YthinfmfjpaikiaaDoorW.PrintWords Go.Proofs.YthinfmfjpaikiaaDoorW.PrintLast Go.Proofs.YthinfmfjpaikiaaDoorW.PrintMore

def lc (x : List (List Int)) (i : Nat) : List Int := x.getD i []
theorem rd_L1_nat (x : List (List Int)) (i : Nat) : rd_L1 x (i : Int) = lc x i := by simp [rd_L1, lc]
theorem lc_over {x : List (List Int)} {i : Nat} (h : x.length ≤ i) : lc x i = [] := by simp [lc, List.getD, List.getElem?_eq_none h]
theorem lc_lt {x : List (List Int)} {i : Nat} (h : i < x.length) : lc x i = x[i] := by simp [lc, List.getD, h]
theorem lc_set {x : List (List Int)} {i : Nat} (h : i < x.length) (v : List Int) (j : Nat) : lc (x.set i v) j = if j = i then v else lc x j := by
  unfold lc
  by_cases e : j = i
  · subst e; simp [List.getD, h]
  · rw [if_neg e]; simp [List.getD, Ne.symm e]
def prt (m j : Nat) (l : List Int) : List Int := (List.range l.length).map fun i => co l (j + i * m)
theorem co_prt {m : Nat} (hm : 0 < m) (j : Nat) (l : List Int) (i : Nat) : co (prt m j l) i = co l (j + i * m) := by
  by_cases e : i < l.length
  · rw [co_lt (by simp [prt, e])]; simp [prt]
  · have : i ≤ i * m := Nat.le_mul_of_pos_right i hm
    rw [co_over (by simp [prt]; omega), co_over (by omega)]
def jc (m : Nat) (x : List (List Int)) (t : Nat) : Int := co (lc x (t % m)) (t / m)
theorem idx_mod {i j m : Nat} (hj : j < m) : (i * m + j) % m = j := by rw [Nat.mul_comm, Nat.mul_add_mod]; exact Nat.mod_eq_of_lt hj
theorem idx_div {i j m : Nat} (hj : j < m) : (i * m + j) / m = i := by
  rw [Nat.add_comm, Nat.add_mul_div_right _ _ (by omega), Nat.div_eq_of_lt hj, Nat.zero_add]
theorem idx_of (t m : Nat) : t / m * m + t % m = t := by rw [Nat.mul_comm]; exact Nat.div_add_mod t m
structure Dealt (p : Int) (m : Nat) (l : List Int) (i : Nat) (x : List (List Int)) : Prop where
  len : x.length = m
  row : ∀ r, r < m → (∀ t, t < (lc x r).length ↔ r + t * m < i) ∧ ∀ t, co (lc x r) t = if r + t * m < i then co l (r + t * m) % p else 0
theorem Dealt.le {p : Int} {m : Nat} {l : List Int} {i : Nat} {x : List (List Int)} (h : Dealt p m l i x) {r : Nat} (hr : r < m) : (lc x r).length ≤ i := by
  rcases Nat.lt_or_ge i (lc x r).length with q | q
  · have := ((h.row r hr).1 i).1 q
    have := Nat.le_mul_of_pos_right i (show 0 < m by omega)
    omega
  · exact q
theorem Dealt.step {p : Int} {m : Nat} {l : List Int} {i : Nat} {x : List (List Int)} (h : Dealt p m l i x) (hm : 0 < m) : Dealt p m l (i + 1) (x.set (i % m) (lc x (i % m) ++ [co l i % p])) := by
  have hr := Nat.mod_lt i hm
  have hi := idx_of i m
  have hlen : (lc x (i % m)).length = i / m := by
    have h1 := (h.row _ hr).1
    rcases Nat.lt_trichotomy (lc x (i % m)).length (i / m) with q | q | q
    · have e1 := Nat.mul_le_mul_right m (show (lc x (i % m)).length + 1 ≤ i / m from q)
      rw [Nat.add_mul] at e1
      have := (h1 (lc x (i % m)).length).2 (by omega)
      omega
    · exact q
    · have := (h1 (i / m)).1 q
      omega
  refine ⟨by rw [List.length_set]; exact h.len, fun r hrm => ?_⟩
  rw [lc_set (by rw [h.len]; exact hr)]
  by_cases e : r = i % m
  · subst e
    rw [if_pos rfl]
    have hh := h.row _ hr
    refine ⟨fun t => ?_, fun t => ?_⟩
    · rw [List.length_append, List.length_singleton, hlen]
      constructor
      · intro ht
        have := Nat.mul_le_mul_right m (show t ≤ i / m by omega)
        omega
      · intro ht
        rcases Nat.lt_or_ge t (i / m + 1) with q | q
        · exact q
        · have := Nat.mul_le_mul_right m q
          rw [Nat.add_mul] at this
          omega
    · rw [co_append]
      by_cases q : t < (lc x (i % m)).length
      · have := (hh.1 t).1 q
        rw [if_pos q, hh.2, if_pos this, if_pos (by omega)]
      · rw [if_neg q]
        rcases Nat.eq_or_lt_of_le (Nat.not_lt.1 q) with q2 | q2
        · rw [← q2, Nat.sub_self, hlen, if_pos (by omega), co_cons_zero, show i % m + i / m * m = i by omega]
        · have := Nat.mul_le_mul_right m (show i / m + 1 ≤ t by omega)
          rw [Nat.add_mul] at this
          rw [co_over (by simp; omega), if_neg (by omega)]
  · rw [if_neg e]
    have hh := h.row r hrm
    have ne : ∀ t, r + t * m ≠ i := fun t c => e (by rw [← c, Nat.add_mul_mod_self_right, Nat.mod_eq_of_lt hrm])
    refine ⟨fun t => ?_, fun t => ?_⟩
    · rw [hh.1 t]; have := ne t; omega
    · rw [hh.2 t]
      have := ne t
      by_cases q : r + t * m < i
      · rw [if_pos q, if_pos (by omega)]
      · rw [if_neg q, if_neg (by omega)]
theorem Dealt.zero (p : Int) (m : Nat) (l : List Int) : Dealt p m l 0 (List.replicate m []) := by
  refine ⟨by simp, fun r hr => ?_⟩
  have : lc (List.replicate m []) r = [] := by rw [lc_lt (by simp [hr])]; simp
  rw [this]
  exact ⟨fun t => by simp, fun t => by simp⟩
theorem Dealt.done {p : Int} (hp : 0 < p) {m : Nat} (hm : 0 < m) {l : List Int} {x : List (List Int)} (h : Dealt p m l l.length x) {r : Nat} (hr : r < m) : trm (lc x r) = nrm p (prt m r l) := by
  refine (trm_lz _).eq (nrm_nf hp _).lz fun t => ?_
  rw [trm_co, nrm_co, co_prt hm, (h.row r hr).2]
  by_cases q : r + t * m < l.length
  · rw [if_pos q]
  · rw [if_neg q, co_over (by omega)]; simp
section good
variable {f : Int} {p : Nat} (h : FP f p)
include h
end good
structure Rows0 (x : List (List Int)) : Prop where
  m : x.length ≤ 64
  len : ∀ r, (lc x r).length ≤ 10000
  u : ∀ r, UL (lc x r)
def Put (m : Nat) (x : List (List Int)) (j i : Nat) (y : List Int) : Prop := ∀ t, co y t = if t % m < j ∨ (t % m = j ∧ t / m < i) then jc m x t else 0
theorem Put.set {m : Nat} {x : List (List Int)} {j i : Nat} {y : List Int} (h : Put m x j i y) (hj : j < m) (hy : i * m + j < y.length) : Put m x j (i + 1) (y.set (i * m + j) (co (lc x j) i)) := fun t => by
  rw [co_set hy, h t]
  by_cases e : t = i * m + j
  · subst e
    rw [if_pos rfl, idx_mod hj, idx_div hj, if_pos (Or.inr ⟨rfl, by omega⟩), jc, idx_mod hj, idx_div hj]
  · rw [if_neg e]
    have ne : ¬ (t % m = j ∧ t / m = i) := fun ⟨a, b⟩ => e (by rw [← a, ← b]; exact (idx_of t m).symm)
    by_cases q : t % m < j ∨ (t % m = j ∧ t / m < i)
    · rw [if_pos q, if_pos (by omega)]
    · rw [if_neg q, if_neg (by omega)]
theorem Put.next {m : Nat} {x : List (List Int)} {j i : Nat} {y : List Int} (h : Put m x j i y) (hi : (lc x j).length ≤ i) : Put m x (j + 1) 0 y := fun t => by
  rw [h t]
  have ej : t % m = j → i ≤ t / m → jc m x t = 0 := fun a b => by rw [jc, a, co_over (Nat.le_trans hi b)]
  generalize t % m = u at *
  generalize t / m = v at *
  by_cases e : u = j ∧ i ≤ v
  · rw [if_neg (by omega), if_pos (by omega), ej e.1 e.2]
  · by_cases q : u < j ∨ (u = j ∧ v < i)
    · rw [if_pos q, if_pos (by omega)]
    · rw [if_neg q, if_neg (by omega)]
theorem Put.zero (m : Nat) (x : List (List Int)) (n : Nat) : Put m x 0 0 (List.replicate n 0) := fun t => by
  rw [co_replicate]
  generalize t % m = u
  generalize t / m = v
  rw [if_neg (by omega)]
theorem jc_nil {x : List (List Int)} (h : x.length = 0) (m t : Nat) : jc m x t = 0 := by rw [jc, lc_over (by omega)]; simp
theorem Put.end {x : List (List Int)} {y : List Int} (h : Put x.length x x.length 0 y) (t : Nat) : co y t = jc x.length x t := by
  rcases Nat.eq_zero_or_pos x.length with e | e
  · rw [h t, jc_nil e, ite_self]
  · rw [h t, if_pos (Or.inl (Nat.mod_lt _ e))]
theorem Put.u {m : Nat} {x : List (List Int)} (hx : Rows0 x) {j i : Nat} {y : List Int} (h : Put m x j i y) : UL y := fun c hc => by
  obtain ⟨t, ht, rfl⟩ := List.getElem_of_mem hc
  rw [← co_lt ht, h t]
  split
  · exact U.co (hx.u _) _
  · exact U.zero
section any
variable {f : Int} {p : Nat} (h : FO f p)
include h
end any
end Go.Proofs.YthinfmfjpaikiaaDoor.Pure
namespace Go.Proofs.YthinfmfjpaikiaaDoor.Pure
open Go.RowKit Go.Proofs.YthinfmfjpaikiaaDoor.Num Go.Proofs.YthinfmfjpaikiaaDoor.Pol

end Go.Proofs.YthinfmfjpaikiaaDoor.Pure
namespace Go.Proofs.YthinfmfjpaikiaaDoor.Pure
open Go.RowKit Go.Proofs.YthinfmfjpaikiaaDoor.Num Go.Proofs.YthinfmfjpaikiaaDoor.Pol

theorem two_unit {f : Int} {p : Nat} (h : FP f p) (k : Nat) : ¬ Cg p ((2 ^ k : Nat) : Int) 0 := fun c => by
  have h2 : ¬ Cg p (2 : Int) 0 := fun c => by
    have h3 := h.three
    have := mod_eq_zero.2 c
    rw [Int.emod_eq_of_lt (by omega) (by omega)] at this
    omega
  rw [Int.natCast_pow] at c
  induction k with
  | zero => rw [Int.pow_zero] at c; exact one_not_zero h c
  | succ k ih =>
    rw [Int.pow_succ] at c
    rcases h.pr.int c with c | c
    · exact ih c
    · exact h2 c
section dom
variable {f : Int} {p k : Nat} {s : Int} (z : Dm f p k s)
include z
theorem wr_pow {m : Nat} (hm : m ≤ k) : Cg p (wr f p k ^ 2 ^ m) (wr f p (k - m)) := by
  have hg := z.hg
  have hb := gr_le f
  have d1 := wr_dvd z.h (k := k) (by omega)
  have d2 := wr_dvd z.h (k := k - m) (by omega)
  refine ((Cg.mod (p : Int) _).pow _).trans (Cg.trans (Cg.of_eq ?_) (Cg.mod (p : Int) _).symm)
  rw [← Int.pow_mul]
  congr 1
  have e : 2 ^ k = 2 ^ (k - m) * 2 ^ m := by rw [← Nat.pow_add]; congr 1; omega
  have hp : 0 < 2 ^ (k - m) := Nat.pow_pos (by omega)
  rw [e] at d1
  rw [e]
  refine Nat.eq_of_mul_eq_mul_right hp ?_
  rw [d2]
  generalize (p - 1) / (2 ^ (k - m) * 2 ^ m) = x at d1 ⊢
  rw [← d1, Nat.mul_assoc, Nat.mul_comm (2 ^ m)]
theorem pnt_fib (h3 : 3 ≤ k) {i j : Nat} : Cg p (pnt f p k s (i + j * (2 ^ k / 8))) (pnt f p k s i * wr f p 3 ^ j) := by
  refine (z.pnt_cg _).trans (Cg.trans ?_ ((z.pnt_cg i).symm.mul (Cg.refl _ _)))
  have e : 2 ^ k / 8 = 2 ^ (k - 3) := by
    obtain ⟨m, rfl⟩ : ∃ m, k = 3 + m := ⟨k - 3, by omega⟩
    rw [Nat.pow_add, show 3 + m - 3 = m by omega]; omega
  have h1 := (wr_pow z (m := k - 3) (by omega)).pow j
  rw [show k - (k - 3) = 3 by omega] at h1
  rw [Int.pow_add, Nat.mul_comm j, Int.pow_mul, e, ← Int.mul_assoc]
  exact (Cg.refl _ _).mul h1
theorem Dm.next (h3 : 3 ≤ k) : Dm f p (k - 3) (s ^ 8 % p) where
  h := z.h
  hg := by have := z.hg; omega
  s0 := by
    have h0 := (z.h.mod (s ^ 8)).1
    have : s ^ 8 % p ≠ 0 := fun c => by
      have : ∀ n : Nat, Cg p (s ^ n) 0 → Cg p s 0 := fun n => by
        induction n with
        | zero => intro c; rw [Int.pow_zero] at c; exact absurd c (one_not_zero z.h)
        | succ n ih =>
          intro c
          rw [Int.pow_succ] at c
          rcases z.h.pr.int c with c | c
          · exact ih c
          · exact c
      exact z.unit (mod_eq_zero.2 (this 8 (mod_eq_zero.1 c)))
    omega
  sp := (z.h.mod _).2
end dom
end Go.Proofs.YthinfmfjpaikiaaDoor.Pure
namespace Go.Proofs.YthinfmfjpaikiaaDoor.Pure
open Go.RowKit Go.Proofs.YthinfmfjpaikiaaDoor.Q Go.Proofs.YthinfmfjpaikiaaDoor.Num Go.Proofs.YthinfmfjpaikiaaDoor.Pol Go.Proofs.YthinfmfjpaikiaaDoorW.PrintWords Go.Proofs.YthinfmfjpaikiaaDoorW.PrintLast Go.Proofs.YthinfmfjpaikiaaDoorW.PrintMore

section any
variable {f : Int} {p : Nat} (h : FO f p)
include h
end any
end Go.Proofs.YthinfmfjpaikiaaDoor.Pure
namespace Go.Proofs.YthinfmfjpaikiaaDoor.Pure
open Go.RowKit Go.Proofs.YthinfmfjpaikiaaDoor.Q Go.Proofs.YthinfmfjpaikiaaDoor.Num Go.Proofs.YthinfmfjpaikiaaDoor.Pol Go.Proofs.YthinfmfjpaikiaaDoorW.PrintWords Go.Proofs.YthinfmfjpaikiaaDoorW.PrintLast Go.Proofs.YthinfmfjpaikiaaDoorW.PrintMore

theorem take_co {l : List Int} {i : Nat} (h : i < l.length) : l.take i ++ [co l i] = l.take (i + 1) := by
  rw [co_lt h]; exact List.take_append_getElem h
theorem cg_cancel {p : Nat} (hp : Pr p) {c a b : Int} (hc : ¬ Cg p c 0) (h : Cg p (c * a) (c * b)) : Cg p a b := by
  have h1 := h.sub_zero
  rw [← Int.mul_sub] at h1
  rcases hp.int h1 with q | q
  · exact absurd q hc
  · exact q.of_sub
section dom
variable {f : Int} {p k : Nat} {s : Int} (z : Dm f p k s)
include z
theorem pow_apart {a b : Nat} (hab : a < b) (hb : b < 2 ^ k) : ¬ Cg p (wr f p k ^ a) (wr f p k ^ b) := fun c => by
  obtain ⟨m, rfl⟩ : ∃ m, b = a + m := ⟨b - a, by omega⟩
  have hg := z.hg
  have ht := wr_rt z.h (k := k) (by have := gr_le f; omega)
  have hu : ¬ Cg p (wr f p k ^ a) 0 := fun q => by
    clear c ht
    clear hab hb
    induction a with
    | zero => rw [Int.pow_zero] at q; exact one_not_zero z.h q
    | succ a ih =>
      rw [Int.pow_succ] at q
      rcases z.h.pr.int q with q | q
      · exact ih q
      · exact wr_unit z.h q
  have c1 : Cg p (wr f p k ^ m) 1 := by
    refine cg_cancel z.h.pr hu ?_
    rw [← Int.pow_add, Int.mul_one]
    exact c.symm
  have nd : ¬ 2 ^ k ∣ m := fun d => by have := Nat.le_of_dvd (by omega) d; omega
  have g := geo k (wr f p k) m ht nd
  have g1 : Cg p (smn (fun i => wr f p k ^ (i * m)) (2 ^ k)) (smn (fun _ => 1) (2 ^ k)) := smn_cg fun i _ => by
    rw [Nat.mul_comm, Int.pow_mul]
    have := c1.pow i
    rwa [Int.one_pow] at this
  rw [smn_one] at g1
  exact two_unit z.h k (g1.symm.trans g)
theorem Dm.apart {a b : Nat} (hab : a < b) (hb : b < 2 ^ k) : ¬ Cg p (pnt f p k s a) (pnt f p k s b) := fun c => by
  refine pow_apart z hab hb (cg_cancel z.h.pr (c := s) (fun q => z.unit (mod_eq_zero.2 q)) ?_)
  exact ((z.pnt_cg a).symm.trans c).trans (z.pnt_cg b)
theorem Dm.apart_map : ∀ (L : List Nat), L.Pairwise (· < ·) → (∀ i ∈ L, i < 2 ^ k) → Apart p (L.map fun i => pnt f p k s i)
  | [], _, _ => trivial
  | a :: L, h, hb => by
    rw [List.pairwise_cons] at h
    refine ⟨fun y hy => ?_, Dm.apart_map L h.2 fun i hi => hb i (List.mem_cons_of_mem _ hi)⟩
    obtain ⟨i, hi, rfl⟩ := List.mem_map.1 hy
    exact z.apart (h.1 i hi) (hb i (List.mem_cons_of_mem _ hi))
end dom
end Go.Proofs.YthinfmfjpaikiaaDoor.Pure
namespace Go.Proofs.YthinfmfjpaikiaaDoor.Pure
open Go.RowKit Go.Proofs.YthinfmfjpaikiaaDoor.Q Go.Proofs.YthinfmfjpaikiaaDoor.Num Go.Proofs.YthinfmfjpaikiaaDoor.Pol Go.Proofs.YthinfmfjpaikiaaDoorW.PrintWords Go.Proofs.YthinfmfjpaikiaaDoorW.PrintLast Go.Proofs.YthinfmfjpaikiaaDoorW.PrintMore

theorem FP.eqr {f : Int} {p : Nat} (h : FP f p) : attestorref01_P.f f = some (p : Int) := by
  have h0 := h.lo
  have h1 := h.hi
  have h2 := h.eq
  have : f = 0 ∨ f = 1 ∨ f = 2 ∨ f = 3 := by omega
  rcases this with rfl | rfl | rfl | rfl <;> (rw [← h2]; rfl)
section good
variable {f : Int} {p : Nat} (h : FP f p)
include h
theorem r_Valid : attestorref01_Valid.f f = some true := by
  unfold attestorref01_Valid.f
  rw [if_pos h.lo, decide_eq_true (by have := h.hi; omega)]
theorem r_Reduce {x : Int} (hx : 0 ≤ x) : attestorref01_Reduce.f f x = some (x % p) := by
  have := h.pos
  simp only [attestorref01_Reduce.f, r_Valid h, h.eqr, Option.bind_some, if_true]
  rw [if_neg (by omega), tmod_nn hx]
theorem r_Add {a b : Int} (ha : 0 ≤ a) (hb : 0 ≤ b) : attestorref01_Add.f f a b = some ((a + b) % p) := by
  have hp := h.pos
  have ma := h.mod a
  have mb := h.mod b
  have hl := h.lei
  simp only [attestorref01_Add.f, r_Valid h, h.eqr, Option.bind_some, if_true]
  rw [if_neg (by omega), tmod_nn ha, tmod_nn hb, wu64 (by omega) (by omega), tmod_nn (by omega)]
  exact congrArg some (Cg.mod_eq ((Cg.mod p a).add (Cg.mod p b)))
theorem r_Mul {a b : Int} (ha : 0 ≤ a) (hb : 0 ≤ b) : attestorref01_Mul.f f a b = some ((a * b) % p) := by
  have hp := h.pos
  have ma := h.mod a
  have mb := h.mod b
  have hl := h.lei
  have h1 : 0 ≤ (a % p) * (b % p) := Int.mul_nonneg ma.1 mb.1
  have h2 : (a % p) * (b % p) ≤ 998244353 * 998244353 := Int.mul_le_mul (by omega) (by omega) mb.1 (by omega)
  simp only [attestorref01_Mul.f, r_Valid h, h.eqr, Option.bind_some, if_true]
  rw [if_neg (by omega), tmod_nn ha, tmod_nn hb, wu64 h1 (by omega), tmod_nn h1]
  exact congrArg some (Cg.mod_eq ((Cg.mod p a).mul (Cg.mod p b)))
theorem r_Sub {a b : Int} (ha : 0 ≤ a) (hb : 0 ≤ b) : attestorref01_Sub.f f a b = some ((a - b) % p) := by
  have hp := h.pos
  have ma := h.mod a
  have mb := h.mod b
  have hl := h.lei
  simp only [attestorref01_Sub.f, r_Valid h, h.eqr, Option.bind_some, if_true]
  rw [if_neg (by omega), tmod_nn ha, tmod_nn hb, wu64 (n := a % p + p) (by omega) (by omega), wu64 (by omega) (by omega), tmod_nn (by omega)]
  refine congrArg some (Cg.mod_eq ?_)
  have h3 : Cg p (a % p + p) a := (Cg.mod p a).symm.symm.trans (Cg.refl _ _) |> fun g => (show Cg p (a % p + p) (a % p) from ⟨1, by omega⟩).trans g
  exact h3.sub (Cg.mod p b)
theorem r_Neg {a : Int} (ha : 0 ≤ a) : attestorref01_Neg.f f a = some ((-a) % p) := by
  simp only [attestorref01_Neg.f, r_Sub h (Int.le_refl 0) ha, Option.bind_some]
  simp
theorem r_Pow {a : Int} (ha : 0 ≤ a) : ∀ (n e : Nat), e ≤ n → (e : Int) < 18446744073709551616 → Ev (fun k => attestorref01_Pow.f k f a e) (a ^ e % p) := by
  have zero : Ev (fun k => attestorref01_Pow.f k f a ((0 : Nat) : Int)) (a ^ 0 % p) := by
    refine Ev.succ (F := fun _ => some (a ^ 0 % p)) (fun k => ?_) (Ev.all fun _ => rfl)
    rw [attestorref01_Pow.f, r_Valid h, Option.bind_some, if_pos rfl, if_pos (show ((0 : Nat) : Int) = 0 from rfl), Int.pow_zero, Int.emod_eq_of_lt (by omega) h.one]
  intro n
  induction n with
  | zero =>
    intro e he _
    obtain rfl : e = 0 := by omega
    exact zero
  | succ n ihn =>
    intro e1 hn hlt
    rcases e1 with _ | e
    · exact zero
    obtain ⟨m, hm⟩ : ∃ m, m = (e + 1) / 2 := ⟨_, rfl⟩
    have ih := ihn m (by omega) (by omega)
    have e1 : Int.tdiv ((e + 1 : Nat) : Int) 2 = (m : Int) := by rw [Int.tdiv_eq_ediv_of_nonneg (by omega)]; omega
    have mm := mod_nonneg h.pos (a ^ m)
    have key : Ev (fun k => (attestorref01_Pow.f k f a m).bind fun t260 => ((attestorref01_Mul.f f t260 t260).bind fun t261 => (if (Int.tmod ((e + 1 : Nat) : Int) 2) = 1 then ((attestorref01_Mul.f f t261 a).bind fun t262 => (some t262)) else (some t261)))) (a ^ (e + 1) % p) := by
      refine ih.bind (Ev.all fun k => ?_)
      rw [r_Mul h mm mm]
      simp only [Option.bind_some]
      have e2 : Cg p ((a ^ m % p) * (a ^ m % p)) (a ^ (m + m)) := by rw [Int.pow_add]; exact (Cg.mod _ _).mul (Cg.mod _ _)
      rw [tmod_nn (by omega)]
      by_cases ho : ((e + 1 : Nat) : Int) % 2 = 1
      · rw [if_pos ho, r_Mul h (mod_nonneg h.pos _) ha]
        simp only [Option.bind_some]
        refine congrArg some (Cg.mod_eq ?_)
        have e3 : e + 1 = m + m + 1 := by omega
        rw [e3, Int.pow_succ]
        exact ((Cg.mod _ _).trans e2).mul (Cg.refl _ _)
      · rw [if_neg ho]
        refine congrArg some (Cg.mod_eq ?_)
        have e3 : e + 1 = m + m := by omega
        rw [e3]
        exact e2
    refine Ev.succ (fun k => ?_) key
    rw [attestorref01_Pow.f, r_Valid h]
    simp only [Option.bind_some, if_true]
    rw [if_neg (by omega), e1, wu64 (by omega) (by omega)]
theorem r_Inv {a : Int} (ha : 0 ≤ a) : Ev (fun k => attestorref01_Inv.f k f a) (inv p a) := by
  have h2 := h.pr.two
  have hl := h.lei
  have key : Ev (fun k => (attestorref01_Pow.f k f a ((p - 2 : Nat) : Int)).bind fun t265 => (some t265)) (inv p a) := (r_Pow h ha (p - 2) (p - 2) (Nat.le_refl _) (by omega)).bind (Ev.all fun _ => rfl)
  refine Ev.congr (fun k => ?_) key
  simp only [attestorref01_Inv.f, r_Valid h, h.eqr, Option.bind_some, if_true]
  rw [wu64 (by omega) (by omega), show (p : Int) - 2 = ((p - 2 : Nat) : Int) by omega]
theorem r_Div {a b : Int} (ha : 0 ≤ a) (hb : 0 ≤ b) : Ev (fun k => attestorref01_Div.f k f a b) ((a * inv p b) % p) := by
  unfold attestorref01_Div.f
  refine (r_Inv h hb).bind (Ev.all fun k => ?_)
  rw [r_Mul h ha (inv_nn h.pr _)]
  rfl
end good
section bad
variable {f : Int} (h : f < 0 ∨ 4 ≤ f)
include h
theorem br_Valid : attestorref01_Valid.f f = some false := by
  unfold attestorref01_Valid.f
  rcases h with h | h
  · rw [if_neg (by omega)]
  · rw [if_pos (by omega), decide_eq_false (by omega)]
theorem br_Add (a b : Int) : attestorref01_Add.f f a b = some 0 := by simp [attestorref01_Add.f, br_Valid h]
theorem br_Mul (a b : Int) : attestorref01_Mul.f f a b = some 0 := by simp [attestorref01_Mul.f, br_Valid h]
end bad
theorem br_Reduce {f : Int} (h : f < 0 ∨ 4 ≤ f) (x : Int) : attestorref01_Reduce.f f x = some 0 := by simp [attestorref01_Reduce.f, br_Valid h]
section any
variable {f : Int} {p : Nat} (h : FO f p)
include h
theorem ro_Reduce {x : Int} (hx : 0 ≤ x) : attestorref01_Reduce.f f x = some (x % p) := by
  rcases h.ok with g | ⟨g, rfl⟩
  · exact r_Reduce g hx
  · rw [br_Reduce g, mod_one]
theorem ro_Add {a b : Int} (ha : 0 ≤ a) (hb : 0 ≤ b) : attestorref01_Add.f f a b = some ((a + b) % p) := by
  rcases h.ok with g | ⟨g, rfl⟩
  · exact r_Add g ha hb
  · rw [br_Add g, mod_one]
theorem ro_Mul {a b : Int} (ha : 0 ≤ a) (hb : 0 ≤ b) : attestorref01_Mul.f f a b = some ((a * b) % p) := by
  rcases h.ok with g | ⟨g, rfl⟩
  · exact r_Mul g ha hb
  · rw [br_Mul g, mod_one]
end any
end Go.Proofs.YthinfmfjpaikiaaDoor.Pure
namespace Go.Proofs.YthinfmfjpaikiaaDoor.Pure
open Go.RowKit Go.Proofs.YthinfmfjpaikiaaDoor.Q Go.Proofs.YthinfmfjpaikiaaDoor.Num Go.Proofs.YthinfmfjpaikiaaDoor.Pol Go.Proofs.YthinfmfjpaikiaaDoorW.PrintWords Go.Proofs.YthinfmfjpaikiaaDoorW.PrintLast Go.Proofs.YthinfmfjpaikiaaDoorW.PrintMore

theorem rtrim_l {l : List Int} (hl : l.length ≤ 1000000) : ∀ n : Nat, n ≤ l.length → (∀ i, n ≤ i → co l i = 0) → Ev (fun k => attestorref03_Normal.l1 k l n) (trm l) := by
  intro n
  induction n with
  | zero =>
    intro hn hz
    refine Ev.succ (F := fun _ => some (trm l)) (fun k => ?_) (Ev.all fun _ => rfl)
    rw [attestorref03_Normal.l1, if_neg (by omega), if_pos (by omega), if_pos (by omega)]
    exact congrArg some (trm_eq (m := 0) hn hz (fun n h => by omega))
  | succ n ih =>
    intro hn hz
    by_cases h0 : co l n = 0
    · refine Ev.succ (fun k => ?_) (ih (by omega) (fun i hi => ?_))
      · rw [attestorref03_Normal.l1, if_pos (by omega), w64_pred (by omega), if_pos (by omega), if_pos (by omega), rd_nat, if_pos h0]
      · rcases Nat.eq_or_lt_of_le hi with e | e
        · rw [← e]; exact h0
        · exact hz i e
    · refine Ev.succ (F := fun _ => some (trm l)) (fun k => ?_) (Ev.all fun _ => rfl)
      rw [attestorref03_Normal.l1, if_pos (by omega), w64_pred (by omega), if_pos (by omega), if_pos (by omega), rd_nat, if_neg h0, if_pos (by omega), if_pos (by omega)]
      refine congrArg some ?_
      rw [Int.toNat_natCast]
      exact trm_eq hn hz (fun m hm => by obtain rfl : m = n := by omega
                                         exact h0)
theorem same_l0 {l : List Int} (hl : l.length ≤ 1000000) : ∀ (d i : Nat), i + d = l.length → Ev (fun k => attestorref01_Same.l0 k l l i) true := by
  intro d
  induction d with
  | zero =>
    intro i hi
    refine Ev.succ (F := fun _ => some true) (fun k => ?_) (Ev.all fun _ => rfl)
    rw [attestorref01_Same.l0, if_neg (by omega)]
  | succ d ih =>
    intro i hi
    refine Ev.succ (fun k => ?_) (ih (i + 1) (by omega))
    rw [attestorref01_Same.l0, if_pos (by omega), if_pos (by omega), if_pos (by omega), if_pos rfl, w64_succ (by omega)]
theorem r_Same {l : List Int} (hl : l.length ≤ 1000000) : Ev (fun k => attestorref01_Same.f k l l) true := by
  refine Ev.congr (fun k => ?_) (same_l0 hl l.length 0 (by omega))
  rw [attestorref01_Same.f, if_pos rfl]
  rfl

section any
variable {f : Int} {p : Nat} (h : FO f p)
include h
theorem rnormal_l {l : List Int} (hl : l.length ≤ 1000000) (hu : UL l) : ∀ (d i : Nat), i + d = l.length → Ev (fun k => attestorref03_Normal.l0 k f l ((l.take i).map (· % (p : Int))) i) (nrm p l) := by
  intro d
  induction d with
  | zero =>
    intro i hi
    have e : (l.take i).map (· % (p : Int)) = l.map (· % (p : Int)) := by rw [List.take_of_length_le (by omega)]
    rw [e]
    refine Ev.succ (fun k => ?_) (rtrim_l (l := l.map (· % (p : Int))) (by simpa using hl) (l.map (· % (p : Int))).length (Nat.le_refl _) (fun _ hh => co_over hh))
    rw [attestorref03_Normal.l0, if_neg (by omega)]
  | succ d ih =>
    intro i hi
    refine Ev.succ (fun k => ?_) (ih (i + 1) (by omega))
    rw [attestorref03_Normal.l0, if_pos (by omega), if_pos (by omega), rd_nat, ro_Reduce h (U.co hu i).1, Option.bind_some, if_pos (by simp; omega), w64_succ (by omega)]
    congr 1
    rw [List.take_succ_eq_append_getElem (by omega), List.map_append, co_lt (by omega)]
    rfl
theorem r_Normal {l : List Int} (hl : l.length ≤ 1000000) (hu : UL l) : Ev (fun k => attestorref03_Normal.f k f l) (nrm p l) := by
  rcases h.ok with g | ⟨g, rfl⟩
  · refine Ev.congr (fun k => ?_) (rnormal_l h hl hu l.length 0 (by omega))
    rw [attestorref03_Normal.f, r_Valid g, Option.bind_some, if_pos rfl]
    rfl
  · rw [nrm_one_nil]
    refine Ev.all fun k => ?_
    rw [attestorref03_Normal.f, br_Valid g, Option.bind_some, if_neg (by decide)]
theorem radd_l {a b : List Int} (ha : a.length ≤ 500000) (hb : b.length ≤ 500000) (ua : UL a) (ub : UL b) : ∀ (d i : Nat), i + d = (padd a b).length → Ev (fun k => attestorref03_Add.l0 k f a b (((padd a b).take i).map (· % (p : Int))) i) (nrm p (padd a b)) := by
  have hlen := padd_length a b
  have coef : ∀ (l : List Int) (i : Nat), attestorref03_coefficient.f l (i : Int) = some (co l i) := fun l i => by
    rw [attestorref03_coefficient.f]
    by_cases hc : i < l.length
    · rw [if_pos (by omega), if_pos (by omega), rd_nat]
    · rw [if_neg (by omega), co_over (by omega)]
  intro d
  induction d with
  | zero =>
    intro i hi
    rw [List.take_of_length_le (by omega)]
    have key : Ev (fun k => (attestorref03_Normal.f k f ((padd a b).map (· % (p : Int)))).bind fun t244 => some t244) (nrm p (padd a b)) := by
      have := (r_Normal h (l := (padd a b).map (· % (p : Int))) (by simp; omega) (fun c hc => by obtain ⟨y, _, rfl⟩ := List.mem_map.1 hc; exact h.U _)).bind (G := fun _ t244 => some t244) (Ev.all fun _ => rfl)
      rwa [nrm_map_mod] at this
    refine Ev.succ (F := fun k => attestorref03_Add.j1 k f a b ((padd a b).map (· % (p : Int))) i false) (fun k => ?_) (Ev.succ (fun k => ?_) key)
    · rw [attestorref03_Add.l0, if_neg (by omega), decide_eq_false (by omega)]
    · rw [attestorref03_Add.j1, if_neg (by simp)]
  | succ d ih =>
    intro i hi
    refine Ev.succ (F := fun k => attestorref03_Add.j1 k f a b (((padd a b).take i).map (· % (p : Int))) i true) (fun k => ?_) (Ev.succ (fun k => ?_) (ih (i + 1) (by omega)))
    · rw [attestorref03_Add.l0]
      by_cases hc : (i : Int) < (a.length : Int)
      · rw [if_pos hc]
      · rw [if_neg hc, decide_eq_true (by omega)]
    · rw [attestorref03_Add.j1, if_pos rfl, coef, Option.bind_some, coef, Option.bind_some, ro_Add h (U.co ua i).1 (U.co ub i).1, Option.bind_some, if_pos (show (((padd a b).take i).map (· % (p : Int))).length < 17592186044416 by rw [List.length_map, List.length_take]; omega), w64_succ (i := i) (by omega), map_mod_take_succ (p : Int) (padd a b) i (by omega), co_padd]
theorem r_AddP {a b : List Int} (ha : a.length ≤ 500000) (hb : b.length ≤ 500000) (ua : UL a) (ub : UL b) : Ev (fun k => attestorref03_Add.f k f a b) (nrm p (padd a b)) := radd_l h ha hb ua ub (padd a b).length 0 (by omega)
theorem rscale_l {l : List Int} (hl : l.length ≤ 1000000) (hu : UL l) {c : Int} (hc : 0 ≤ c) : ∀ (d i : Nat), i + d = l.length → Ev (fun k => attestorref03_Scale.l0 k f l c (((psc c l).take i).map (· % (p : Int))) i) (nrm p (psc c l)) := by
  have hlen : (psc c l).length = l.length := by simp [psc]
  intro d
  induction d with
  | zero =>
    intro i hi
    rw [List.take_of_length_le (by omega)]
    have key : Ev (fun k => (attestorref03_Normal.f k f ((psc c l).map (· % (p : Int)))).bind fun t252 => some t252) (nrm p (psc c l)) := by
      have := (r_Normal h (l := (psc c l).map (· % (p : Int))) (by simp; omega) (fun c hc => by obtain ⟨y, _, rfl⟩ := List.mem_map.1 hc; exact h.U _)).bind (G := fun _ t252 => some t252) (Ev.all fun _ => rfl)
      rwa [nrm_map_mod] at this
    refine Ev.succ (fun k => ?_) key
    rw [attestorref03_Scale.l0, if_neg (by omega)]
  | succ d ih =>
    intro i hi
    refine Ev.succ (fun k => ?_) (ih (i + 1) (by omega))
    rw [attestorref03_Scale.l0, if_pos (by omega), if_pos (by omega), rd_nat, ro_Mul h (U.co hu i).1 hc, Option.bind_some, if_pos (show (((psc c l).take i).map (· % (p : Int))).length < 17592186044416 by rw [List.length_map, List.length_take]; omega), w64_succ (i := i) (by omega), map_mod_take_succ (p : Int) (psc c l) i (by omega), co_psc, Int.mul_comm c]
theorem r_Scale {l : List Int} (hl : l.length ≤ 1000000) (hu : UL l) {c : Int} (hc : 0 ≤ c) : Ev (fun k => attestorref03_Scale.f k f l c) (nrm p (psc c l)) := rscale_l h hl hu hc l.length 0 (by omega)
theorem reval_l {l : List Int} (hl : l.length ≤ 1000000) (hu : UL l) {x : Int} (hx : 0 ≤ x) : ∀ (d i : Nat) (w : Int), i + d = l.length → 0 ≤ w → Cg p w (x ^ i) → Ev (fun k => attestorref03_Eval.l0 k f l x (ev (l.take i) x % p) w i) (ev l x % p) := by
  intro d
  induction d with
  | zero =>
    intro i w hi _ _
    refine Ev.succ (F := fun _ => some (ev l x % p)) (fun k => ?_) (Ev.all fun _ => rfl)
    rw [attestorref03_Eval.l0, if_neg (by omega), List.take_of_length_le (by omega)]
  | succ d ih =>
    intro i w hi hw hc
    refine Ev.succ (fun k => ?_) (ih (i + 1) (w * x % p) (by omega) (mod_nonneg h.pos _) (by rw [Int.pow_succ]; exact (Cg.mod _ _).trans (hc.mul (Cg.refl _ _))))
    have e1 : (ev (l.take i) x % p + co l i * w % p) % p = ev (l.take (i + 1)) x % p := by
      refine Cg.mod_eq ?_
      rw [ev_take_succ]
      exact (Cg.mod _ _).add ((Cg.mod _ _).trans ((Cg.refl _ _).mul hc))
    rw [attestorref03_Eval.l0, if_pos (by omega), if_pos (by omega), rd_nat, ro_Mul h (U.co hu i).1 hw, Option.bind_some, ro_Add h (mod_nonneg h.pos _) (mod_nonneg h.pos _), Option.bind_some, ro_Mul h hw hx, Option.bind_some, e1, w64_succ (by omega)]
theorem r_Eval {l : List Int} (hl : l.length ≤ 1000000) (hu : UL l) {x : Int} (hx : 0 ≤ x) : Ev (fun k => attestorref03_Eval.f k f l x) (ev l x % p) := by
  have key := reval_l h hl hu hx l.length 0 1 (by omega) (by omega) (Cg.of_eq (Int.pow_zero x).symm)
  rw [List.take_zero, show ev [] x % (p : Int) = 0 by simp [ev]] at key
  exact key
end any
section good
variable {f : Int} {p : Nat} (h : FP f p)
include h
theorem rmul_l {a b : List Int} (ha : a.length ≤ 1000000) (hb : b.length ≤ 1000000) (ra : Rg p a) (rb : Rg p b) {z : List Int} (rz : Rg p z) (hz : z.length + 1 = a.length + b.length) :
    ∀ (d i : Nat) (x : List Int), i + d = a.length → x.length = z.length → Rg p x → (∀ t, Cg p (co z t) (co x t + co (sh i (pmul (a.drop i) b)) t)) → Ev (fun k => attestorref03_Mul.l0 k f a b x i) (z, 0) := by
  intro d
  induction d with
  | zero =>
    intro i x hi hx rx hc
    have e : z = x := rz.eq rx hx.symm fun t _ => by
      have := hc t
      rw [List.drop_of_length_le (by omega)] at this
      simpa [pmul, co_sh] using this
    subst e
    refine Ev.succ (F := fun _ => some (z, 0)) (fun k => ?_) (Ev.all fun _ => rfl)
    rw [attestorref03_Mul.l0, if_neg (by omega)]
  | succ d ih =>
    intro i x hi hx rx hc
    have inner : ∀ (e j : Nat) (x : List Int), j + e = b.length → x.length = z.length → Rg p x → (∀ t, Cg p (co z t) (co x t + (co (sh (i + j) (psc (co a i) (b.drop j))) t + co (sh (i + 1) (pmul (a.drop (i + 1)) b)) t))) →
        Ev (fun k => attestorref03_Mul.l1 k f a b x i j) (z, 0) := by
      intro e
      induction e with
      | zero =>
        intro j x hj hx rx hc
        refine Ev.succ (fun k => ?_) (ih (i + 1) x (by omega) hx rx (fun t => ?_))
        · rw [attestorref03_Mul.l1, if_neg (by omega), w64_succ (by omega)]
        · have := hc t
          rw [List.drop_of_length_le (by omega)] at this
          have e0 : co (sh (i + j) (psc (co a i) [])) t = 0 := by rw [co_sh]; split <;> simp [psc]
          rwa [e0, Int.zero_add] at this
      | succ e ihe =>
        intro j x hj hx rx hc
        have hij : i + j < x.length := by omega
        refine Ev.succ (fun k => ?_) (ihe (j + 1) (x.set (i + j) ((co x (i + j) + (co a i * co b j) % p) % p)) (by omega) (by simpa using hx) (rx.set (h.mod _)) (fun t => ?_))
        · have e1 : wrap64 ((i : Int) + (j : Int)) = ((i + j : Nat) : Int) := by rw [w64 (by omega) (by omega)]; omega
          rw [attestorref03_Mul.l1, if_pos (by omega), e1, if_pos (by omega), if_pos (by omega), if_pos (by omega), if_pos (by omega), if_pos (by omega), rd_nat, rd_nat, rd_nat, r_Mul h (ra i).1 (rb j).1, Option.bind_some, r_Add h (rx _).1 (mod_nonneg h.pos _), Option.bind_some, w64_succ (by omega), Int.toNat_natCast]
        · have h1 := hc t
          rw [co_sh_term (i + j) (co a i) b j (by omega) t] at h1
          refine h1.trans ?_
          rw [co_set hij, show i + (j + 1) = i + j + 1 by omega]
          by_cases et : t = i + j
          · subst et
            rw [if_pos rfl, if_pos rfl]
            have c1 : Cg p ((co x (i + j) + co a i * co b j % p) % p) (co x (i + j) + co a i * co b j) := (Cg.mod _ _).trans ((Cg.refl _ _).add (Cg.mod _ _))
            exact (Cg.of_eq (by omega)).trans (c1.symm.add (Cg.refl _ _))
          · rw [if_neg et, if_neg et]; exact Cg.of_eq (by omega)
    refine Ev.succ (fun k => ?_) (inner b.length 0 x (by omega) hx rx (fun t => ?_))
    · rw [attestorref03_Mul.l0, if_pos (by omega)]
      rfl
    · have h1 := hc t
      rw [co_sh_row a b i (by omega) t] at h1
      rw [Nat.add_zero, List.drop_zero]
      exact h1
theorem r_MulP {a b : List Int} (ha : a.length ≤ 1000000) (hb : b.length ≤ 1000000) (ua : UL a) (ub : UL b) (hlim : (nrm p a).length + (nrm p b).length ≤ 32769) : Ev (fun k => attestorref03_Mul.f k f a b) (nrm p (pmul a b), 0) := by
  have la := nrm_length_le p a
  have lb := nrm_length_le p b
  have key : Ev (fun k => (if ((nrm p a).length : Int) = 0 then (attestorref03_Mul.j0 k f (nrm p a) (nrm p b) true) else (attestorref03_Mul.j0 k f (nrm p a) (nrm p b) (((nrm p b).length : Int) == 0)))) (nrm p (pmul a b), 0) := by
    by_cases ea : (nrm p a).length = 0
    · have : nrm p (pmul a b) = [] := nrm_eq_nil.2 (pmul_zero_left (nrm_eq_nil.1 (List.eq_nil_of_length_eq_zero ea)))
      rw [this]
      refine Ev.succ (F := fun _ => some ([], 0)) (fun k => ?_) (Ev.all fun _ => rfl)
      rw [if_pos (by omega), attestorref03_Mul.j0, if_pos rfl]
    · by_cases eb : (nrm p b).length = 0
      · have : nrm p (pmul a b) = [] := nrm_eq_nil.2 (pmul_nil_right p a (nrm_eq_nil.1 (List.eq_nil_of_length_eq_zero eb)))
        rw [this]
        refine Ev.succ (F := fun _ => some ([], 0)) (fun k => ?_) (Ev.all fun _ => rfl)
        rw [if_neg (by omega), attestorref03_Mul.j0, if_pos (by rw [eb]; rfl)]
      · obtain ⟨m, hm⟩ : ∃ m, (nrm p a).length = m + 1 := ⟨(nrm p a).length - 1, by omega⟩
        obtain ⟨n, hn⟩ : ∃ n, (nrm p b).length = n + 1 := ⟨(nrm p b).length - 1, by omega⟩
        have hz := nrm_pmul_length h.pr hm hn
        have ew : wrap64 (wrap64 (((nrm p a).length : Int) + ((nrm p b).length : Int)) - 1) = ((m + n + 1 : Nat) : Int) := by
          rw [w64 (n := ((nrm p a).length : Int) + ((nrm p b).length : Int)) (by omega) (by omega), w64 (by omega) (by omega)]; omega
        refine Ev.succ (fun k => ?_) (rmul_l h (by omega) (by omega) (nrm_rg h.pos a) (nrm_rg h.pos b) (nrm_rg h.pos (pmul a b)) (by omega) (nrm p a).length 0 (List.replicate (m + n + 1) 0) (by omega) (by simp [hz]) (Rg.zeros h.pos _) (fun t => ?_))
        · have ef : (((nrm p b).length : Int) == 0) = false := by simpa using eb
          rw [if_neg (by omega), ef, attestorref03_Mul.j0, if_neg (by simp), ew, if_neg (by omega), if_pos (by omega), if_pos (by omega), Int.toNat_natCast]
          rfl
        · rw [co_replicate, Int.zero_add, co_sh, if_neg (by omega), List.drop_zero, Nat.sub_zero]
          exact (nrm_eqp p _ t).trans (((nrm_eqp p a).pmul (nrm_eqp p b)).symm t)
  have key2 := (r_Normal h.o ha ua).bind (G := fun k t206 => (attestorref03_Normal.f k f b).bind fun t209 => (if (t206.length : Int) = 0 then (attestorref03_Mul.j0 k f t206 t209 true) else (attestorref03_Mul.j0 k f t206 t209 ((t209.length : Int) == 0)))) ((r_Normal h.o hb ub).bind key)
  refine Ev.congr (fun k => ?_) key2
  rw [attestorref03_Mul.f, r_Valid h, Option.bind_some, if_pos rfl]
theorem rvanish_l {xs : List Int} (hl : xs.length ≤ 1024) (hu : UL xs) : ∀ (d i : Nat) (w : List Int) (n : Nat), i + d = xs.length → Mon w n → n ≤ i → Ev (fun k => attestorref03_Vanish.l0 k f xs (nrm p w) i) (nrm p (van w (xs.drop i)), 0) := by
  intro d
  induction d with
  | zero =>
    intro i w n hi hm hni
    refine Ev.succ (F := fun _ => some (nrm p (van w (xs.drop i)), 0)) (fun k => ?_) (Ev.all fun _ => rfl)
    rw [attestorref03_Vanish.l0, if_neg (by omega), List.drop_of_length_le (by omega)]
    rfl
  | succ d ih =>
    intro i w n hi hm hni
    have hlen := hm.length h.one
    have hx := U.co hu i
    have e2 : nrm p (pmul (nrm p w) [(-(co xs i)) % p, 1]) = nrm p (pmul [-(co xs i), 1] w) := nrm_congr
      ((EqP.pmul (nrm_eqp p w) (c := w) (d := [-(co xs i), 1]) (fun j => by
        cases j with
        | zero => simpa using Cg.mod _ _
        | succ j => cases j with
          | zero => simpa using Cg.refl _ _
          | succ j => simpa using Cg.refl _ _)).trans (pmul_lin_comm p _ w))
    have u2 : UL [(-(co xs i)) % p, 1] := UL.cons (h.U _) (UL.cons (by unfold U; omega) UL.nil)
    have l2 : (nrm p [(-(co xs i)) % (p : Int), 1]).length ≤ 2 := nrm_length_le _ _
    have l1 : (nrm p (nrm p w)).length ≤ n + 1 := by have := nrm_length_le p (nrm p w); omega
    have key0 := r_MulP h (a := nrm p w) (b := [(-(co xs i)) % p, 1]) (by omega) (by simp) (nrm_UL h.o w) u2 (by omega)
    rw [e2] at key0
    have key : Ev (fun k => (attestorref03_Mul.f k f (nrm p w) [(-(co xs i)) % p, 1]).bind fun bt233 => attestorref03_Vanish.l0 k f xs bt233.1 ((i + 1 : Nat) : Int)) (nrm p (van w (xs.drop i)), 0) := key0.bind (by
      rw [drop_co xs i (by omega)]
      exact ih (i + 1) _ _ (by omega) (hm.lin _) (by omega))
    refine Ev.succ (fun k => ?_) key
    rw [attestorref03_Vanish.l0, if_pos (by omega), if_pos (by omega), rd_nat, r_Neg h hx.1, Option.bind_some, w64_succ (by omega)]
theorem r_Vanish {xs : List Int} (hl : xs.length ≤ 1024) (hu : UL xs) : Ev (fun k => attestorref03_Vanish.f k f xs) (nrm p (van [1] xs), 0) := by
  have key := rvanish_l h hl hu xs.length 0 [1] 0 (by omega) Mon.one (Nat.le_refl _)
  rw [nrm_one h, List.drop_zero] at key
  refine Ev.congr (fun k => ?_) key
  rw [attestorref03_Vanish.f, r_Valid h, Option.bind_some, if_pos rfl, if_neg (by omega)]
  rfl
end good
end Go.Proofs.YthinfmfjpaikiaaDoor.Pure
namespace Go.Proofs.YthinfmfjpaikiaaDoor.Pure
open Go.RowKit Go.Proofs.YthinfmfjpaikiaaDoor.Q Go.Proofs.YthinfmfjpaikiaaDoor.Num Go.Proofs.YthinfmfjpaikiaaDoor.Pol Go.Proofs.YthinfmfjpaikiaaDoorW.PrintWords Go.Proofs.YthinfmfjpaikiaaDoorW.PrintLast Go.Proofs.YthinfmfjpaikiaaDoorW.PrintMore

def oth (xs : List Int) (i j : Nat) : List Int := ((List.range j).filter (· ≠ i)).map (co xs)
theorem oth_succ (xs : List Int) (i j : Nat) : oth xs i (j + 1) = if j = i then oth xs i j else oth xs i j ++ [co xs j] := by
  unfold oth
  rw [List.range_succ, List.filter_append, List.map_append]
  by_cases e : j = i <;> simp [e]
theorem oth_length (xs : List Int) {i n : Nat} (hi : i < n) : (oth xs i n).length < n := by
  unfold oth
  rw [List.length_map]
  have := List.length_filter_lt_length_iff_exists (p := fun x : Nat => decide (x ≠ i)) (l := List.range n)
  rw [List.length_range] at this
  exact this.2 ⟨i, List.mem_range.2 hi, by simp⟩
theorem oth_mem {xs : List Int} {i n : Nat} {x : Int} : x ∈ oth xs i n ↔ ∃ j, j < n ∧ j ≠ i ∧ x = co xs j := by
  unfold oth
  simp only [List.mem_map, List.mem_filter, List.mem_range, decide_eq_true_eq]
  constructor
  · rintro ⟨j, ⟨h1, h2⟩, rfl⟩; exact ⟨j, h1, h2, rfl⟩
  · rintro ⟨j, h1, h2, rfl⟩; exact ⟨j, ⟨h1, h2⟩, rfl⟩
theorem rthru_l3 {f : Int} {xs ys : List Int} (hm : xs.length ≤ 1024) (i : Nat) (acc : List Int) {v : List Int × Int} (hK : Ev (fun k => (attestorref03_Vanish.f k f (oth xs i xs.length)).bind fun bt276 => (if 0 ≤ (i : Int) then (if (i : Int) < (ys.length : Int) then (if (i : Int) < (xs.length : Int) then ((attestorref03_Eval.f k f bt276.1 (rd xs i)).bind fun t282 => ((attestorref01_Div.f k f (rd ys i) t282).bind fun t283 => ((attestorref03_Scale.f k f bt276.1 t283).bind fun t284 => ((attestorref03_Add.f k f acc t284).bind fun t287 => (attestorref03_Through.l2 k f xs ys t287 (wrap64 ((i : Int) + 1))))))) else (none)) else (none)) else (none))) v) :
    ∀ (d j : Nat), j + d = xs.length → Ev (fun k => attestorref03_Through.l3 k f xs ys acc i (oth xs i j) j) v := by
  intro d
  induction d with
  | zero =>
    intro j hj
    obtain rfl : j = xs.length := by omega
    refine Ev.succ (fun k => ?_) hK
    rw [attestorref03_Through.l3, if_neg (by omega)]
  | succ d ih =>
    intro j hj
    refine Ev.succ (fun k => ?_) (ih (j + 1) (by omega))
    rw [attestorref03_Through.l3, if_pos (by omega), oth_succ]
    by_cases e : j = i
    · rw [if_pos (by omega), if_pos e, w64_succ (by omega)]
    · rw [if_neg (by omega), if_neg e, if_pos (by omega), if_pos (by rw [oth, List.length_map]; have := List.length_filter_le (fun x : Nat => decide (x ≠ i)) (List.range j); rw [List.length_range] at this; omega), w64_succ (by omega), rd_nat]

section good
variable {f : Int} {p : Nat} (h : FP f p)
include h
theorem rthru_l2 {xs ys : List Int} (ux : UL xs) (uy : UL ys) (hl : xs.length = ys.length) (hm : xs.length ≤ 1024) (ha : IA p xs) :
    ∀ (d i : Nat) (P : List Int), i + d = xs.length → Deg p P xs.length → (∀ j, j < xs.length → Cg p (ev P (co xs j)) (if j < i then co ys j else 0)) → ∃ R, Ev (fun k => attestorref03_Through.l2 k f xs ys (nrm p P) i) (nrm p R, 0) ∧ Interp p xs ys R := by
  intro d
  induction d with
  | zero =>
    intro i P hi hd hv
    refine ⟨P, Ev.succ (F := fun _ => some (nrm p P, 0)) (fun k => ?_) (Ev.all fun _ => rfl), hd, fun j hj => ?_⟩
    · rw [attestorref03_Through.l2, if_neg (by omega)]
    · have := hv j hj
      rwa [if_pos (by omega)] at this
  | succ d ih =>
    intro i P hi hd hv
    have hin : i < xs.length := by omega
    have hxi := U.co ux i
    have hyi := U.co uy i
    have ho := oth_length xs hin
    have uo : UL (oth xs i xs.length) := fun c hc => by obtain ⟨j, _, _, rfl⟩ := oth_mem.1 hc; exact U.co ux j
    obtain ⟨V, hV⟩ : ∃ V, V = van [1] (oth xs i xs.length) := ⟨_, rfl⟩
    have hmo : Mon V (oth xs i xs.length).length := by have := Mon.one.van (oth xs i xs.length); rw [← hV] at this; simpa using this
    have hlV := hmo.length h.one
    have hlP := nrm_deg h.pos hd
    have hnz : ¬ Cg p (ev V (co xs i)) 0 := by
      rw [hV]
      refine van_nonroot h.pr _ _ (fun y hy => ?_) (by simpa [ev] using one_not_zero h)
      obtain ⟨j, hj, hji, rfl⟩ := oth_mem.1 hy
      rcases Nat.lt_or_gt_of_ne hji with e | e
      · exact ha i j e hin
      · exact fun c => ha j i e hj c.symm
    obtain ⟨c, hc⟩ : ∃ c, c = co ys i * inv p (ev V (co xs i)) := ⟨_, rfl⟩
    obtain ⟨P', hP'⟩ : ∃ P', P' = padd P (psc c V) := ⟨_, rfl⟩
    have hd' : Deg p P' xs.length := by rw [hP']; exact hd.padd (((hmo.deg (p := p)).mono (by omega)).psc)
    have hv' : ∀ j, j < xs.length → Cg p (ev P' (co xs j)) (if j < i + 1 then co ys j else 0) := fun j hj => by
      rw [hP', ev_padd, ev_psc]
      by_cases e : j = i
      · subst e
        have h0 := hv j hj
        rw [if_neg (by omega)] at h0
        rw [if_pos (by omega), hc]
        have h2 := (Cg.refl p (co ys j)).mul (inv_spec h.pr hnz)
        exact (h0.add ((Cg.of_eq (by grind)).trans h2)).trans (Cg.of_eq (by omega))
      · have : ev V (co xs j) = 0 := by rw [hV]; exact van_root _ _ (oth_mem.2 ⟨j, hj, e, rfl⟩)
        rw [this]
        have h0 := hv j hj
        by_cases e2 : j < i
        · rw [if_pos e2] at h0; rw [if_pos (by omega)]; simpa using h0
        · rw [if_neg e2] at h0; rw [if_neg (by omega)]; simpa using h0
    obtain ⟨R, hR, hI⟩ := ih (i + 1) P' (by omega) hd' hv'
    refine ⟨R, ?_, hI⟩
    obtain ⟨e2, he2⟩ : ∃ e2, e2 = ev (nrm p V) (co xs i) % p := ⟨_, rfl⟩
    have c2 : Cg p e2 (ev V (co xs i)) := by rw [he2]; exact (Cg.mod _ _).trans ((nrm_eqp p V).ev _)
    have m2 : 0 ≤ e2 := by rw [he2]; exact mod_nonneg h.pos _
    obtain ⟨c', hc'⟩ : ∃ c', c' = (co ys i * inv p e2) % p := ⟨_, rfl⟩
    have mc : 0 ≤ c' := by rw [hc']; exact mod_nonneg h.pos _
    have cc : Cg p c' c := by rw [hc', hc, inv_congr c2]; exact Cg.mod _ _
    have s1 := r_Vanish h (xs := oth xs i xs.length) (by omega) uo
    rw [← hV] at s1
    have s2 := r_Eval h.o (l := nrm p V) (by omega) (nrm_UL h.o V) hxi.1
    rw [← he2] at s2
    have s3 := r_Div h hyi.1 m2
    rw [← hc'] at s3
    have s4 := r_Scale h.o (l := nrm p V) (by omega) (nrm_UL h.o V) mc
    have l5 := nrm_length_le p (psc c' (nrm p V))
    have l5' : (psc c' (nrm p V)).length = (nrm p V).length := by simp [psc]
    have s5 := r_AddP h.o (a := nrm p P) (b := nrm p (psc c' (nrm p V))) (by omega) (by omega) (nrm_UL h.o P) (nrm_UL h.o _)
    have e5 : nrm p (padd (nrm p P) (nrm p (psc c' (nrm p V)))) = nrm p P' := by
      rw [hP']
      exact nrm_congr ((nrm_eqp p P).padd ((nrm_eqp p _).trans (EqP.psc cc (nrm_eqp p V))))
    rw [e5] at s5
    have s6 := s5.bind (G := fun k t287 => attestorref03_Through.l2 k f xs ys t287 ((i + 1 : Nat) : Int)) hR
    have s7 := s4.bind (G := fun k t284 => (attestorref03_Add.f k f (nrm p P) t284).bind fun t287 => attestorref03_Through.l2 k f xs ys t287 ((i + 1 : Nat) : Int)) s6
    have s8 := s3.bind (G := fun k t283 => (attestorref03_Scale.f k f (nrm p V) t283).bind fun t284 => (attestorref03_Add.f k f (nrm p P) t284).bind fun t287 => attestorref03_Through.l2 k f xs ys t287 ((i + 1 : Nat) : Int)) s7
    have s9 := s2.bind (G := fun k t282 => (attestorref01_Div.f k f (co ys i) t282).bind fun t283 => (attestorref03_Scale.f k f (nrm p V) t283).bind fun t284 => (attestorref03_Add.f k f (nrm p P) t284).bind fun t287 => attestorref03_Through.l2 k f xs ys t287 ((i + 1 : Nat) : Int)) s8
    have s10 := s1.bind (G := fun k bt276 => (if 0 ≤ (i : Int) then (if (i : Int) < (ys.length : Int) then (if (i : Int) < (xs.length : Int) then ((attestorref03_Eval.f k f bt276.1 (rd xs i)).bind fun t282 => ((attestorref01_Div.f k f (rd ys i) t282).bind fun t283 => ((attestorref03_Scale.f k f bt276.1 t283).bind fun t284 => ((attestorref03_Add.f k f (nrm p P) t284).bind fun t287 => (attestorref03_Through.l2 k f xs ys t287 (wrap64 ((i : Int) + 1))))))) else (none)) else (none)) else (none)))
      (Ev.congr (fun k => by rw [if_pos (by omega), if_pos (by omega), if_pos (by omega), rd_nat, rd_nat, w64_succ (by omega)]) s9)
    refine Ev.succ (fun k => ?_) (rthru_l3 hm i (nrm p P) s10 xs.length 0 (by omega))
    rw [attestorref03_Through.l2, if_pos (by omega)]
    rfl
theorem rthru_l0_ok {xs ys : List Int} (ux : UL xs) (hm : xs.length ≤ 1024) (ha : IA p xs) {v : List Int × Int} (hK : Ev (fun k => attestorref03_Through.l2 k f xs ys [] 0) v) : ∀ (d i : Nat), i + d = xs.length → Ev (fun k => attestorref03_Through.l0 k f xs ys i) v := by
  intro d
  induction d with
  | zero =>
    intro i hi
    refine Ev.succ (fun k => ?_) hK
    rw [attestorref03_Through.l0, if_neg (by omega)]
  | succ d ih =>
    intro i hi
    have inner : ∀ (e j : Nat), j + e = i → Ev (fun k => attestorref03_Through.l1 k f xs ys i j) v := by
      intro e
      induction e with
      | zero =>
        intro j hj
        refine Ev.succ (fun k => ?_) (ih (i + 1) (by omega))
        rw [attestorref03_Through.l1, if_neg (by omega), w64_succ (by omega)]
      | succ e ihe =>
        intro j hj
        refine Ev.succ (fun k => ?_) (ihe (j + 1) (by omega))
        have hne : ¬ (co xs i - co xs j) % p = 0 := fun c => ha i j (by omega) (by omega) (Cg.of_sub (mod_eq_zero.1 c))
        rw [attestorref03_Through.l1, if_pos (by omega), if_pos (by omega), if_pos (by omega), if_pos (by omega), if_pos (by omega), rd_nat, rd_nat, r_Sub h (U.co ux i).1 (U.co ux j).1, Option.bind_some, if_neg hne, w64_succ (by omega)]
    refine Ev.succ (fun k => ?_) (inner i 0 (by omega))
    rw [attestorref03_Through.l0, if_pos (by omega)]
    rfl
theorem r_Through {xs ys : List Int} (ux : UL xs) (uy : UL ys) (hl : xs.length = ys.length) (hm : xs.length ≤ 1024) (ha : Apart p xs) : ∃ R, Ev (fun k => attestorref03_Through.f k f xs ys) (nrm p R, 0) ∧ Interp p xs ys R := by
  have hia := (apart_iff xs).1 ha
  obtain ⟨R, h1, h2⟩ := rthru_l2 h ux uy hl hm hia xs.length 0 [] (by omega) (fun i _ => by simpa using Cg.refl p 0) (fun j _ => by simpa [ev] using Cg.refl p 0)
  refine ⟨R, ?_, h2⟩
  refine Ev.succ (fun k => ?_) (rthru_l0_ok h ux hm hia h1 xs.length 0 (by omega))
  have e : (((xs.length : Int) != (ys.length : Int))) = false := by rw [hl]; simp
  rw [attestorref03_Through.f, r_Valid h, Option.bind_some, if_pos rfl, e, attestorref03_Through.j0, if_neg (by simp), if_neg (by omega)]
  rfl
end good
end Go.Proofs.YthinfmfjpaikiaaDoor.Pure
namespace Go.Proofs.YthinfmfjpaikiaaDoor.Pure
open Go.RowKit Go.Proofs.YthinfmfjpaikiaaDoor.Q Go.Proofs.YthinfmfjpaikiaaDoor.Num Go.Proofs.YthinfmfjpaikiaaDoor.Pol Go.Proofs.YthinfmfjpaikiaaDoorW.PrintWords Go.Proofs.YthinfmfjpaikiaaDoorW.PrintLast Go.Proofs.YthinfmfjpaikiaaDoorW.PrintMore

def fpt (f : Int) (p k : Nat) (s : Int) (i : Nat) : List Int := (List.range 8).map fun j => pnt f p k s (i + j * (2 ^ k / 8))
theorem fpt_length (f : Int) (p k : Nat) (s : Int) (i : Nat) : (fpt f p k s i).length = 8 := by simp [fpt]
theorem co_fpt {f : Int} {p k : Nat} {s : Int} {i j : Nat} (h : j < 8) : co (fpt f p k s i) j = pnt f p k s (i + j * (2 ^ k / 8)) := by
  rw [co_lt (by rw [fpt_length]; exact h)]; simp [fpt]
section dom
variable {f : Int} {p k : Nat} {s : Int} (z : Dm f p k s)
include z
theorem loc_at (h3 : 3 ≤ k) (l : List Int) {i j : Nat} (hj : j < 8) : Cg p (ev (loc f p k s l i) (pnt f p k s (i + j * (2 ^ k / 8)))) (co l (i + j * (2 ^ k / 8))) := by
  have hg := three_gr z
  have hb := gr_le f
  have hx := inv_spec z.h.pr (fun c => z.pnt_unit i (mod_eq_zero.2 c))
  have key := vals_cofs (p := p) (w := wr f p 3) (u := inv p (wr f p 3)) (c := inv p 8) (s := pnt f p k s i) (t := inv p (pnt f p k s i)) (k := 3) (wr_rt z.h (by omega)) (inv_spec z.h.pr (wr_unit z.h)) ((Cg.of_eq (Int.mul_comm _ _)).trans (inv_spec z.h.pr (two_unit z.h 3))) hx (v := fib l (2 ^ k / 8) i) (by rw [fib_length]; exact Nat.le_refl _) (i := j) hj
  rw [co_vals hj, co_fib hj, ev_shf] at key
  exact (ev_arg (pnt_fib z h3) _).trans (Cg.of_mod key)
theorem loc_interp (h3 : 3 ≤ k) (l : List Int) (i : Nat) : Interp p (fpt f p k s i) (fib l (2 ^ k / 8) i) (loc f p k s l i) := by
  refine ⟨(Deg.len p _).mono (by rw [loc_length, fpt_length]; exact Nat.le_refl _), fun j hj => ?_⟩
  rw [fpt_length] at hj
  rw [co_fpt hj, co_fib hj]
  exact loc_at z h3 l hj
theorem fpt_apart (h3 : 3 ≤ k) {i : Nat} (hi : i < 2 ^ k / 8) : Apart p (fpt f p k s i) := by
  have e : fpt f p k s i = ((List.range 8).map fun j => i + j * (2 ^ k / 8)).map fun i => pnt f p k s i := by
    simp only [fpt, List.map_map]; rfl
  have hn : 0 < 2 ^ k / 8 := by omega
  rw [e]
  refine z.apart_map _ ?_ fun a ha => ?_
  · rw [List.pairwise_map]
    refine List.pairwise_lt_range.imp fun {a b} hab => ?_
    have : a * (2 ^ k / 8) < b * (2 ^ k / 8) := Nat.mul_lt_mul_of_pos_right hab hn
    omega
  · obtain ⟨j, hj, rfl⟩ := List.mem_map.1 ha
    have hj := List.mem_range.1 hj
    have : j * (2 ^ k / 8) ≤ 7 * (2 ^ k / 8) := Nat.mul_le_mul_right _ (by omega)
    omega
theorem fpt_UL (i : Nat) : UL (fpt f p k s i) := fun x hx => by
  obtain ⟨j, _, rfl⟩ := List.mem_map.1 hx
  exact z.h.U _
theorem r_Through_fib (h3 : 3 ≤ k) {l : List Int} (ul : UL l) {i : Nat} (hi : i < 2 ^ k / 8) : Ev (fun K => attestorref03_Through.f K f (fpt f p k s i) (fib l (2 ^ k / 8) i)) (nrm p (loc f p k s l i), 0) := by
  obtain ⟨R, h1, h2⟩ := r_Through z.h (fpt_UL z i) (fib_UL ul (2 ^ k / 8) i) (by rw [fpt_length, fib_length]) (by rw [fpt_length]; omega) (fpt_apart z h3 hi)
  rw [interp_same z.h (fpt_apart z h3 hi) h2 (loc_interp z h3 l i)] at h1
  exact h1
end dom
end Go.Proofs.YthinfmfjpaikiaaDoor.Pure
namespace Go.Proofs.YthinfmfjpaikiaaDoor.Pure
open Go.RowKit Go.Proofs.YthinfmfjpaikiaaDoor.Q Go.Proofs.YthinfmfjpaikiaaDoor.Num Go.Proofs.YthinfmfjpaikiaaDoor.Pol Go.Proofs.YthinfmfjpaikiaaDoorW.PrintWords Go.Proofs.YthinfmfjpaikiaaDoorW.PrintLast Go.Proofs.YthinfmfjpaikiaaDoorW.PrintMore

theorem r_Twos (f : Int) : attestorref01_Twos.f f = some (tOf f) := by
  unfold attestorref01_Twos.f tOf
  by_cases h0 : f = 0
  · rw [if_pos h0, if_pos h0]
  · by_cases h1 : f = 1
    · rw [if_neg h0, if_neg h0, if_pos h1, if_pos h1]
    · by_cases h2 : f = 2
      · rw [if_neg h0, if_neg h0, if_neg h1, if_neg h1, if_pos h2, if_pos h2]
      · by_cases h3 : f = 3
        · rw [if_neg h0, if_neg h0, if_neg h1, if_neg h1, if_neg h2, if_neg h2, if_pos h3, if_pos h3]
        · rw [if_neg h0, if_neg h0, if_neg h1, if_neg h1, if_neg h2, if_neg h2, if_neg h3, if_neg h3]
theorem r_gr (f : Int) : attestorref04_Greatest.f f = some (gr f) := by rw [attestorref04_Greatest.f, r_Twos, Option.bind_some]; rfl
theorem rshl_tab : ((List.range 31).all fun k => shl .i64 1 (IntKind.u64.wrap ((k : Nat) : Int)) == ((2 ^ k : Nat) : Int)) = true := by decide +kernel
section bad
variable {f : Int} (h : f < 0 ∨ 4 ≤ f)
include h
end bad
section good
variable {f : Int} {p : Nat} (h : FP f p)
include h
theorem r_Gen : Ev (fun K => attestorref01_Generator.f K f) (gOf f) := by
  have h0 := h.lo
  have h1 := h.hi
  have : f = 0 ∨ f = 1 ∨ f = 2 ∨ f = 3 := by omega
  refine Ev.mks 0 fun K _ => ?_
  rcases this with rfl | rfl | rfl | rfl <;> rfl
theorem rroot_l {k : Nat} (hk : (k : Int) ≤ tOf f) : ∀ (d i : Nat), i + d = k → Ev (fun K => attestorref01_Root.l0 K f k (((p - 1) / 2 ^ i : Nat) : Int) i) (wr f p k) := by
  have hl := h.lei
  have ht : tOf f ≤ 23 := by unfold tOf; (repeat' split) <;> omega
  have hb : ∀ i, (p - 1) / 2 ^ i ≤ 1000000000 := fun i => by have := Nat.div_le_self (p - 1) (2 ^ i); omega
  intro d
  induction d with
  | zero =>
    intro i hi
    obtain rfl : i = k := by omega
    obtain ⟨K1, k1⟩ := Ev.get (r_Gen h)
    obtain ⟨K2, k2⟩ := Ev.get (r_Pow h (gOf_nn f) ((p - 1) / 2 ^ i) ((p - 1) / 2 ^ i) (Nat.le_refl _) (by have := hb i; omega))
    refine Ev.mks (K1 + K2) fun K hK => ?_
    rw [attestorref01_Root.l0, if_neg (by omega), k1 K (by omega), Option.bind_some, k2 K (by omega), Option.bind_some]
    rfl
  | succ d ih =>
    intro i hi
    have e : Int.tdiv (((p - 1) / 2 ^ i : Nat) : Int) 2 = (((p - 1) / 2 ^ (i + 1) : Nat) : Int) := by
      rw [Int.tdiv_eq_ediv_of_nonneg (Int.natCast_nonneg _), Nat.pow_succ, ← Nat.div_div_eq_div_mul]
      omega
    refine Ev.succ (fun K => ?_) (ih (i + 1) (by omega))
    rw [attestorref01_Root.l0, if_pos (by omega), e, wu64 (Int.natCast_nonneg _) (by have := hb (i + 1); omega), w64_succ (by omega)]
theorem r_Root {k : Nat} (hk : (k : Int) ≤ tOf f) : Ev (fun K => attestorref01_Root.f K f k) (wr f p k) := by
  have hl := h.lei
  have hp := h.pos
  obtain ⟨K1, k1⟩ := Ev.get (rroot_l h hk k 0 (by omega))
  rw [Nat.pow_zero, Nat.div_one] at k1
  refine Ev.mk (K1 + 1) fun K hK => ?_
  obtain ⟨K, rfl⟩ : ∃ K', K = K' + 1 := ⟨K - 1, by omega⟩
  rw [attestorref01_Root.f, r_Valid h, Option.bind_some, if_pos rfl, if_neg (by omega), r_Twos, Option.bind_some, decide_eq_false (by omega), attestorref01_Root.j0, if_neg (by decide), h.eqr, Option.bind_some, wu64 (by omega) (by omega), show (p : Int) - 1 = ((p - 1 : Nat) : Int) by omega]
  exact k1 K (by omega)
theorem r_Point {k : Nat} (hk : (k : Int) ≤ tOf f) {s : Int} (hs : 0 ≤ s) {i : Nat} (hi : i < 1000000000) : Ev (fun K => attestorref04_Point.f K f k s i) (s * (wr f p k ^ i % p) % p) := by
  obtain ⟨K1, k1⟩ := Ev.get (r_Root h hk)
  obtain ⟨K2, k2⟩ := Ev.get (r_Pow h (wr_nn h k) i i (Nat.le_refl _) (by omega))
  refine Ev.mk (K1 + K2) fun K hK => ?_
  rw [attestorref04_Point.f, k1 K (by omega), Option.bind_some, wu64 (by omega) (by omega), k2 K (by omega), Option.bind_some, r_Mul h hs (h.mod _).1, Option.bind_some]
end good
end Go.Proofs.YthinfmfjpaikiaaDoor.Pure
namespace Go.Proofs.YthinfmfjpaikiaaDoor.Pure
open Go.RowKit Go.Proofs.YthinfmfjpaikiaaDoor.Q Go.Proofs.YthinfmfjpaikiaaDoor.Num Go.Proofs.YthinfmfjpaikiaaDoor.Pol Go.Proofs.YthinfmfjpaikiaaDoorW.PrintWords Go.Proofs.YthinfmfjpaikiaaDoorW.PrintLast Go.Proofs.YthinfmfjpaikiaaDoorW.PrintMore

theorem gr_more {f : Int} {p : Nat} (h : FP f p) : 5 ≤ gr f ∧ (f ≠ 0 → 7 ≤ gr f) := by
  have h0 := h.lo
  have h1 := h.hi
  have : f = 0 ∨ f = 1 ∨ f = 2 ∨ f = 3 := by omega
  rcases this with rfl | rfl | rfl | rfl
  · exact ⟨by decide, fun q => absurd rfl q⟩
  · exact ⟨by decide, fun _ => by decide⟩
  · exact ⟨by decide, fun _ => by decide⟩
  · exact ⟨by decide, fun _ => by decide⟩
end Go.Proofs.YthinfmfjpaikiaaDoor.Pure
namespace Go.Proofs.YthinfmfjpaikiaaDoor.Pure
open Go.RowKit Go.Proofs.YthinfmfjpaikiaaDoor.Q Go.Proofs.YthinfmfjpaikiaaDoor.Num Go.Proofs.YthinfmfjpaikiaaDoor.Pol Go.Proofs.YthinfmfjpaikiaaDoorW.PrintWords Go.Proofs.YthinfmfjpaikiaaDoorW.PrintLast Go.Proofs.YthinfmfjpaikiaaDoorW.PrintMore

theorem ix8_bco (v : List Int) : ∀ (j : Nat), j < 8 → ix8 (j : Int) (bco v 0) (bco v 1) (bco v 2) (bco v 3) (bco v 4) (bco v 5) (bco v 6) (bco v 7) = co v j
  | 0, _ => rfl
  | 1, _ => rfl
  | 2, _ => rfl
  | 3, _ => rfl
  | 4, _ => rfl
  | 5, _ => rfl
  | 6, _ => rfl
  | 7, _ => rfl
  | n + 8, h => by omega
theorem fib_self {v : List Int} (hv : v.length = 8) : fib v (2 ^ 3 / 8) 0 = v := ext_co (by rw [fib_length, hv]) fun j hj => by
  rw [fib_length] at hj
  rw [co_fib hj]
  congr 1
  omega
section good
variable {f : Int} {p : Nat} (h : FP f p)
include h
theorem dm3 {x : Int} (h0 : x % p ≠ 0) : Dm f p 3 (x % p) := by
  have hg := (gr_more h).1
  have hm := h.mod x
  exact ⟨h, by omega, by omega, hm.2⟩
theorem s_At {x c : Int} (hx : 0 ≤ x) (hc : 0 ≤ c) {v : List Int} (hv : v.length = 8) (uv : UL v) (h0 : x % p ≠ 0) : Ev (fun K => fold_At8.f K f x v c) (ev (loc f p 3 (x % p) v 0) c % p) := by
  have z := dm3 h h0
  obtain ⟨K1, k1⟩ := Ev.get (z.Local (Nat.le_refl _) (l := v) hv uv (i := 0) (by decide))
  obtain ⟨K2, k2⟩ := Ev.get (s_Eval h.o (l := loc f p 3 (x % p) v 0) (by rw [loc_length]; omega) (z.loc_UL v 0) hc)
  refine Ev.mk (K1 + K2) fun K hK => ?_
  rw [fold_At8.f, if_pos hv, s_Reduce h hx, Option.bind_some, if_neg h0, show code_Local.f K f 3 (x % p) v 0 = some _ from k1 K (by omega), Option.bind_some]
  exact k2 K (by omega)
theorem rAt_l0 {x c : Int} (hx : 0 ≤ x) (hc : 0 ≤ c) {v : List Int} (hv : v.length = 8) (uv : UL v) (h0 : x % p ≠ 0) : ∀ (d j : Nat), j + d = 8 →
    Ev (fun K => attestorref09_At.l0 K f x c (wr f p 3) ((fpt f p 3 (x % p) 0).take j) (v.take j) j (bco v 0) (bco v 1) (bco v 2) (bco v 3) (bco v 4) (bco v 5) (bco v 6) (bco v 7)) (ev (loc f p 3 (x % p) v 0) c % p) := by
  have z := dm3 h h0
  intro d
  induction d with
  | zero =>
    intro j hj
    have t1 := r_Through_fib z (Nat.le_refl _) (l := v) uv (i := 0) (by decide)
    rw [fib_self hv] at t1
    obtain ⟨K1, k1⟩ := Ev.get t1
    have l1 := nrm_length_le p (loc f p 3 (x % p) v 0)
    rw [loc_length] at l1
    have t2 := r_Eval h.o (l := nrm p (loc f p 3 (x % p) v 0)) (by omega) (nrm_UL h.o _) hc
    rw [((nrm_eqp p (loc f p 3 (x % p) v 0)).ev c).mod_eq] at t2
    obtain ⟨K2, k2⟩ := Ev.get t2
    refine Ev.mks (K1 + K2) fun K hK => ?_
    rw [attestorref09_At.l0, if_neg (by omega), List.take_of_length_le (by rw [fpt_length]; omega), List.take_of_length_le (by omega), k1 K (by omega), Option.bind_some, k2 K (by omega), Option.bind_some]
  | succ d ih =>
    intro j hj
    have hj8 : j < 8 := by omega
    obtain ⟨K1, k1⟩ := Ev.get (r_Pow h (a := wr f p 3) (wr_nn h 3) j j (Nat.le_refl _) (by omega))
    obtain ⟨K2, k2⟩ := Ev.get (ih (j + 1) (by omega))
    have e1 : x * (wr f p 3 ^ j % p) % p = co (fpt f p 3 (x % p) 0) j := by
      rw [co_fpt hj8, Nat.zero_add, show 2 ^ 3 / 8 = 1 from rfl, Nat.mul_one]
      exact Cg.mod_eq ((Cg.mod p x).symm.mul (Cg.refl _ _))
    refine Ev.mks (K1 + K2) fun K hK => ?_
    rw [attestorref09_At.l0, if_pos (by omega), wu64 (by omega) (by omega), k1 K (by omega), Option.bind_some, r_Mul h hx (h.mod _).1, Option.bind_some, if_pos (by rw [List.length_take, fpt_length]; omega), if_pos (by rw [List.length_take]; omega), ix8_bco v j hj8, e1, take_co (by rw [fpt_length]; exact hj8), take_co (by omega), w64_succ (by omega)]
    exact k2 K (by omega)
theorem r_At {x c : Int} (hx : 0 ≤ x) (hc : 0 ≤ c) {v : List Int} (hv : v.length = 8) (uv : UL v) (h0 : x % p ≠ 0) : Ev (fun K => attestorref09_At.f K f x v c) (ev (loc f p 3 (x % p) v 0) c % p) := by
  have hg := (gr_more h).1
  have hb := gr_le f
  obtain ⟨K1, k1⟩ := Ev.get (r_Root h (k := 3) (by omega))
  obtain ⟨K2, k2⟩ := Ev.get (rAt_l0 h hx hc hv uv h0 8 0 (by omega))
  refine Ev.mk (K1 + K2) fun K hK => ?_
  rw [attestorref09_At.f, r_Reduce h hx, Option.bind_some, if_neg h0, show attestorref01_Root.f K f 3 = some _ from k1 K (by omega), Option.bind_some]
  exact k2 K (by omega)
end good
end Go.Proofs.YthinfmfjpaikiaaDoor.Pure
namespace Go.Proofs.YthinfmfjpaikiaaDoor.Pure
open Go.RowKit Go.Proofs.YthinfmfjpaikiaaDoor.Q Go.Proofs.YthinfmfjpaikiaaDoor.Num Go.Proofs.YthinfmfjpaikiaaDoor.Pol Go.Proofs.YthinfmfjpaikiaaDoorW.PrintWords Go.Proofs.YthinfmfjpaikiaaDoorW.PrintLast Go.Proofs.YthinfmfjpaikiaaDoorW.PrintMore

def wrd (f : Int) (p k : Nat) (s : Int) (l : List Int) (z : Int) : List Int := (List.range (2 ^ k / 8)).map fun i => ev (loc f p k s l i) z % p
theorem wrd_length (f : Int) (p k : Nat) (s : Int) (l : List Int) (z : Int) : (wrd f p k s l z).length = 2 ^ k / 8 := by simp [wrd]
theorem co_wrd {f : Int} {p k : Nat} {s : Int} {l : List Int} {z : Int} {i : Nat} (h : i < 2 ^ k / 8) : co (wrd f p k s l z) i = ev (loc f p k s l i) z % p := by
  rw [co_lt (by rw [wrd_length]; exact h)]; simp [wrd]
section dom
variable {f : Int} {p k : Nat} {s : Int} (z : Dm f p k s)
include z
theorem Dm.fisw (l : List Int) : fold_isWord.f f k s l = some ((l.length : Int) == ((2 ^ k : Nat) : Int)) := by
  rw [fold_isWord.f, z.valid, Option.bind_some, if_pos rfl, z.size, Option.bind_some]
theorem word_l0 (h3 : 3 ≤ k) {l : List Int} (hl : l.length = 2 ^ k) (ul : UL l) {c : Int} (hc : 0 ≤ c) : ∀ (d i : Nat) (x : List Int), i + d = 2 ^ k / 8 → x.length = 2 ^ k / 8 → (∀ j, j < 2 ^ k / 8 → co (wrd f p k s l c) j = if i ≤ j then ev (loc f p k s l j) c % p else co x j) → Ev (fun K => fold_Word.l0 K f k s l c (2 ^ k / 8) x i) (wrd f p k s l c) := by
  intro d
  induction d with
  | zero =>
    intro i x hi hx hcx
    have e : wrd f p k s l c = x := ext_co (by rw [wrd_length, hx]) fun j hj => by rw [wrd_length] at hj; rw [hcx j hj, if_neg (by omega)]
    refine Ev.mks 0 fun K _ => ?_
    rw [fold_Word.l0, if_neg (by omega), e]
  | succ d ih =>
    intro i x hi hx hcx
    have hii : i < 2 ^ k / 8 := by omega
    obtain ⟨K1, k1⟩ := Ev.get (z.Local h3 hl ul hii)
    obtain ⟨K2, k2⟩ := Ev.get (s_Eval z.h.o (l := loc f p k s l i) (by rw [loc_length]; omega) (z.loc_UL l i) hc)
    obtain ⟨K3, k3⟩ := Ev.get (ih (i + 1) (x.set i (ev (loc f p k s l i) c % p)) (by omega) (by simpa using hx) (fun j hj => by
      rw [hcx j hj, co_set (by omega)]
      by_cases q : j = i
      · subst q; rw [if_pos (Nat.le_refl _), if_neg (by omega), if_pos rfl]
      · rw [if_neg q]
        by_cases q2 : i ≤ j
        · rw [if_pos q2, if_pos (by omega)]
        · rw [if_neg q2, if_neg (by omega)]))
    refine Ev.mks (K1 + K2 + K3) fun K hK => ?_
    rw [fold_Word.l0, if_pos hii, k1 K (by omega), Option.bind_some, k2 K (by omega), Option.bind_some]
    exact k3 K (by omega)
theorem Dm.Word (h3 : 3 ≤ k) {l : List Int} (hl : l.length = 2 ^ k) (ul : UL l) {c : Int} (hc : 0 ≤ c) : Ev (fun K => fold_Word.f K f k s l c) (wrd f p k s l c, 0) := by
  have h18 := z.p18
  obtain ⟨K1, k1⟩ := Ev.get (word_l0 z h3 hl ul hc (2 ^ k / 8) 0 (List.replicate (2 ^ k / 8) 0) (by omega) (by simp) (fun j hj => by rw [co_wrd hj, if_pos (Nat.zero_le _)]))
  refine Ev.mk K1 fun K hK => ?_
  have e8 : (l.length : Int) == ((2 ^ k : Nat) : Int) := by rw [hl]; exact beq_self_eq_true _
  rw [fold_Word.f, z.fisw, Option.bind_some, if_pos e8, if_neg (by omega), hl, if_pos (by omega), k1 K hK, Option.bind_some]
theorem Dm.Next (h3 : 3 ≤ k) : Ev (fun K => fold_Next.f K f k s) (f, ((k - 3 : Nat) : Int), s ^ 8 % p, 0) := by
  have h0 := z.s0
  have h18 := z.k18
  obtain ⟨K1, k1⟩ := Ev.get (s_Pow z.h (a := s) (by omega) 8 (by decide))
  refine Ev.mk K1 fun K hK => ?_
  rw [fold_Next.f, z.valid, Option.bind_some, if_pos rfl, if_neg (by omega), show (8 : Int) = ((8 : Nat) : Int) from rfl, k1 K hK, Option.bind_some, w64 (by omega) (by omega), show (k : Int) - 3 = ((k - 3 : Nat) : Int) by omega]
end dom
end Go.Proofs.YthinfmfjpaikiaaDoor.Pure
namespace Go.Proofs.YthinfmfjpaikiaaDoor.Pure
open Go.RowKit Go.Proofs.YthinfmfjpaikiaaDoor.Q Go.Proofs.YthinfmfjpaikiaaDoor.Num Go.Proofs.YthinfmfjpaikiaaDoor.Pol Go.Proofs.YthinfmfjpaikiaaDoorW.PrintWords Go.Proofs.YthinfmfjpaikiaaDoorW.PrintLast Go.Proofs.YthinfmfjpaikiaaDoorW.PrintMore
theorem works60 : attestorlaw09_works.f 60 = some true := by decide +kernel
theorem s_works : Ev (fun k => attestorlaw09_works.f k) true := Ev.of_mono attestorlaw09_works.mono works60
theorem s_own {l : List Int} (hl : l.length * 8 ≤ 140737488351232) (n : Nat) : attestorlaw09_own.f l (n : Int) = some (l.take n) := by
  have e : (mn (l.length : Int) (n : Int)).toNat = min l.length n := by unfold mn; split <;> omega
  have e1 : 0 ≤ mn (l.length : Int) (n : Int) := by unfold mn; split <;> omega
  have e2 : mn (l.length : Int) (n : Int) ≤ (l.length : Int) := by unfold mn; split <;> omega
  rw [attestorlaw09_own.f, if_pos e1, if_pos e2, e, if_pos (by rw [List.length_nil, List.length_take]; omega), List.nil_append]
  refine congrArg some ?_
  rcases Nat.le_total l.length n with h | h
  · rw [Nat.min_eq_left h, List.take_of_length_le (Nat.le_refl _), List.take_of_length_le h]
  · rw [Nat.min_eq_right h]
end Go.Proofs.YthinfmfjpaikiaaDoor.Pure
namespace Go.Proofs.YthinfmfjpaikiaaDoor.Pure
open Go.RowKit Go.Proofs.YthinfmfjpaikiaaDoor.Q Go.Proofs.YthinfmfjpaikiaaDoor.Num Go.Proofs.YthinfmfjpaikiaaDoor.Pol Go.Proofs.YthinfmfjpaikiaaDoorW.PrintWords Go.Proofs.YthinfmfjpaikiaaDoorW.PrintLast Go.Proofs.YthinfmfjpaikiaaDoorW.PrintMore

def wds (f : Int) (p : Nat) : Nat → Int → List Int → List Int → List (List Int)
  | _, _, l, [] => [l]
  | k, s, l, c :: zs => l :: wds f p (k - 3) (s ^ 8 % p) (wrd f p k s l c) zs
theorem wds_length (f : Int) (p : Nat) : ∀ (zs : List Int) (k : Nat) (s : Int) (l : List Int), (wds f p k s l zs).length = zs.length + 1
  | [], _, _, _ => rfl
  | c :: zs, k, s, l => by rw [wds, List.length_cons, wds_length f p zs, List.length_cons]
section dom
variable {f : Int} {p k : Nat} {s : Int} (z : Dm f p k s)
include z
theorem wrd_rg (l : List Int) (c : Int) : Rg p (wrd f p k s l c) := fun j => by
  have h1 := z.h.one
  by_cases hj : j < 2 ^ k / 8
  · rw [co_wrd hj]; exact z.h.mod _
  · rw [co_over (by rw [wrd_length]; omega)]; omega
theorem wrd_len3 (h3 : 3 ≤ k) (l : List Int) (c : Int) : (wrd f p k s l c).length = 2 ^ (k - 3) := by
  rw [wrd_length]
  obtain ⟨m, rfl⟩ : ∃ m, k = 3 + m := ⟨k - 3, by omega⟩
  rw [Nat.pow_add, show 3 + m - 3 = m by omega]; omega
theorem Dm.At (h3 : 3 ≤ k) {l : List Int} (ul : UL l) {c : Int} (hc : 0 ≤ c) {i : Nat} : Ev (fun K => fold_At8.f K f (pnt f p k s i) (fib l (2 ^ k / 8) i) c) (ev (loc f p k s l i) c % p) := by
  have h0 := z.pnt_unit i
  have hm := (z.h.mod (s * (wr f p k ^ i % p)))
  have e0 : pnt f p k s i % p = pnt f p k s i := Int.emod_eq_of_lt (z.pnt_nn i) hm.2
  have e1 : pnt f p 3 (pnt f p k s i) 0 = pnt f p k s i := by
    rw [pnt, Int.pow_zero, Int.emod_eq_of_lt (by omega) z.h.one, Int.mul_one, e0]
  have e2 : loc f p 3 (pnt f p k s i % p) (fib l (2 ^ k / 8) i) 0 = loc f p k s l i := by
    unfold loc
    rw [e0, e1, fib_self (fib_length _ _ _)]
  have := s_At z.h (z.pnt_nn i) hc (fib_length l (2 ^ k / 8) i) (fib_UL ul _ _) h0
  rw [e2] at this
  exact this
end dom
section good
variable {f : Int} {p : Nat}
theorem words_l1 : ∀ (cs : List Int) (k : Nat) (s : Int) (_ : Dm f p k s) (pre : List (List Int)) (cur zs : List Int) (j : Nat), UL cs → cur.length = 2 ^ k → UL cur → 3 * cs.length ≤ k → pre.length + cs.length ≤ 1000 → zs.length = j + cs.length → (∀ t, t < cs.length → co zs (j + t) = co cs t) → Ev (fun K => fold_Words.l1 K zs (pre ++ [cur]) j f k s) (pre ++ wds f p k s cur cs, 0)
  | [], k, s, z, pre, cur, zs, j, _, _, _, _, _, hz, _ => by
    refine Ev.mks 0 fun K _ => ?_
    rw [fold_Words.l1, if_neg (by rw [hz]; simp), wds]
  | c :: cs, k, s, z, pre, cur, zs, j, uc, hc, ul, h3, hp, hz, hv => by
    have hk : 3 ≤ k := by simp at h3; omega
    have h18 := z.k18
    have c0 : 0 ≤ c := (uc c (by simp)).1
    have ez := hv 0 (by simp)
    rw [Nat.add_zero, co_cons_zero] at ez
    obtain ⟨K1, k1⟩ := Ev.get (z.Word hk hc ul c0)
    obtain ⟨K2, k2⟩ := Ev.get (z.Next hk)
    obtain ⟨K3, k3⟩ := Ev.get (words_l1 cs (k - 3) (s ^ 8 % p) (z.next hk) (pre ++ [cur]) (wrd f p k s cur c) zs (j + 1) (fun x hx => uc x (List.mem_cons_of_mem _ hx)) (wrd_len3 z hk _ _) ((wrd_rg z _ _).U z.h.o) (by simp at h3; omega) (by
      rw [List.length_append, List.length_singleton]; simp at hp; omega) (by rw [hz]; simp; omega) (fun t ht => by
      have := hv (t + 1) (by simp; omega)
      rw [co_cons_succ] at this
      rw [← this]; congr 1; omega))
    have el : rd_L1 (pre ++ [cur]) (((pre ++ [cur]).length - 1 : Nat) : Int) = cur := by
      rw [rd_L1_nat]; simp [lc]
    refine Ev.mks (K1 + K2 + K3) fun K hK => ?_
    have e1 : fold_Words_1.f K f k s (pre ++ [cur]) c = some (pre ++ [cur] ++ [wrd f p k s cur c], f, ((k - 3 : Nat) : Int), s ^ 8 % p) := by
      rw [fold_Words_1.f, if_pos (by rw [List.length_append, List.length_singleton]; omega), el, k1 K (by omega), Option.bind_some, if_pos rfl, k2 K (by omega), Option.bind_some, if_pos rfl]
    rw [fold_Words.l1, if_pos (by rw [hz]; simp), rd_nat, ez, e1, Option.bind_some]
    have := k3 K (by omega)
    have ew : pre ++ [cur] ++ wds f p (k - 3) (s ^ 8 % ↑p) (wrd f p k s cur c) cs = pre ++ wds f p k s cur (c :: cs) := by rw [List.append_assoc, List.singleton_append, wds]
    rw [ew] at this
    exact this
theorem words0_l0 {k : Nat} {s : Int} (z : Dm f p k s) {l : List Int} (hl : l.length = 2 ^ k) (ul : UL l) : ∀ (d i : Nat) (x : List Int), i + d = l.length → x.length = l.length → (∀ j, j < l.length → co (l.map (· % (p : Int))) j = if i ≤ j then co l j % p else co x j) → Ev (fun K => fold_Words0.l0 K x l (l.length : Int) i f k s) ([l.map (· % (p : Int))], 0) := by
  have h18 := z.p18
  intro d
  induction d with
  | zero =>
    intro i x hi hx hc
    have e : l.map (· % (p : Int)) = x := ext_co (by rw [List.length_map, hx]) fun j hj => by rw [List.length_map] at hj; rw [hc j hj, if_neg (by omega)]
    refine Ev.mks 0 fun K _ => ?_
    rw [fold_Words0.l0, if_neg (by omega), e]
  | succ d ih =>
    intro i x hi hx hc
    have hii : i < l.length := by omega
    refine Ev.succ (fun K => ?_) (ih (i + 1) (x.set i (co l i % p)) (by omega) (by simpa using hx) (fun j hj => ?_))
    · rw [fold_Words0.l0, if_pos (Int.ofNat_lt.2 hii), if_pos (Int.natCast_nonneg _), if_pos (Int.ofNat_lt.2 hii), rd_nat, s_Reduce z.h (U.co ul i).1, Option.bind_some, hx, if_pos (Int.ofNat_lt.2 hii), w64_succ (by omega), Int.toNat_natCast]
    · rw [hc j hj, co_set (by omega)]
      by_cases q : j = i
      · subst q; rw [if_pos (Nat.le_refl _), if_neg (by omega), if_pos rfl]
      · rw [if_neg q]
        by_cases q2 : i ≤ j
        · rw [if_pos q2, if_pos (by omega)]
        · rw [if_neg q2, if_neg (by omega)]
theorem s_Rounds {k : Nat} (hk : k ≤ 1000) : fold_Rounds.f (k : Int) = some ((k / 3 : Nat) : Int) := by
  rw [fold_Rounds.f, show mx (k : Int) 0 = (k : Int) by unfold mx; split <;> omega, w64 (by omega) (by omega)]
  rfl
theorem Dm.Words {k : Nat} {s : Int} (z : Dm f p k s) {l zs : List Int} (hl : l.length = 2 ^ k) (ul : UL l) (uz : UL zs) (hz : zs.length ≤ k / 3) : Ev (fun K => fold_Words.f K f k s l zs) (wds f p k s (l.map (· % (p : Int))) zs, 0) := by
  have h18 := z.k18
  have hp18 := z.p18
  have uf : UL (l.map (· % (p : Int))) := fun x hx => by
    obtain ⟨y, _, rfl⟩ := List.mem_map.1 hx
    exact z.h.U _
  obtain ⟨K1, k1⟩ := Ev.get (words0_l0 z hl ul l.length 0 (List.replicate l.length 0) (by omega) (by simp) (fun j hj => by rw [if_pos (Nat.zero_le _), co_map_mod]))
  obtain ⟨K2, k2⟩ := Ev.get (words_l1 zs k s z [] (l.map (· % (p : Int))) zs 0 uz (by rw [List.length_map]; exact hl) uf (by omega) (by simp; omega) (by omega) (fun t _ => by rw [Nat.zero_add]))
  refine Ev.mk (K1 + K2) fun K hK => ?_
  have e8 : ((l.length : Int) == ((2 ^ k : Nat) : Int)) = true := by rw [hl]; exact beq_self_eq_true _
  have e0 : fold_Words0.f K f k s l zs = some ([l.map (· % (p : Int))], 0) := by
    rw [fold_Words0.f, z.fisw, Option.bind_some, if_pos e8, s_Rounds (by omega), Option.bind_some, if_neg (by omega), if_pos (Int.natCast_nonneg _), Int.toNat_natCast, if_pos (by omega)]
    exact k1 K (by omega)
  rw [fold_Words.f, e0, Option.bind_some, if_pos rfl]
  exact k2 K (by omega)
end good
end Go.Proofs.YthinfmfjpaikiaaDoor.Pure
namespace Go.Proofs.YthinfmfjpaikiaaDoor.Pure.V
open Go.RowKit Go.Proofs.YthinfmfjpaikiaaDoor.Q Go.Proofs.YthinfmfjpaikiaaDoor.Num Go.Proofs.YthinfmfjpaikiaaDoor.Pol Go.Proofs.YthinfmfjpaikiaaDoorW.PrintWords Go.Proofs.YthinfmfjpaikiaaDoorW.PrintLast Go.Proofs.YthinfmfjpaikiaaDoorW.PrintMore

theorem rP_any (f : Int) : attestorref01_P.f f = some (pOf f) := by
  unfold attestorref01_P.f pOf
  repeat' split
  all_goals rfl
theorem sP_any (f : Int) : field_P.f f = some (pOf f) := by simp [field_P.f]
theorem dm_or (f b s : Int) : (∃ p k : Nat, b = (k : Int) ∧ Dm f p k s ∧ attestorref05_Valid.f f b s = some true) ∨ (code_Valid.f f b s = some false ∧ attestorref05_Valid.f f b s = some false) := by
  rcases fp_or f with ⟨p, h⟩ | h
  · have e1 := s_Valid h
    have e2 := r_Valid h
    have e3 := h.eq
    rw [code_Valid.f, attestorref05_Valid.f, e1, e2, Option.bind_some, Option.bind_some, if_pos rfl, if_pos rfl, s_cgr, r_gr, Option.bind_some, Option.bind_some, sP_any, rP_any, Option.bind_some, e3]
    by_cases c1 : b ≥ 0
    · rw [if_pos c1]
      by_cases c2 : b ≤ gr f
      · rw [if_pos c2]
        by_cases c3 : s > 0
        · rw [if_pos c3]
          by_cases c4 : s < p
          · rw [decide_eq_true c4]
            exact Or.inl ⟨p, b.toNat, by omega, ⟨h, by omega, c3, c4⟩, rfl⟩
          · rw [decide_eq_false c4]; exact Or.inr ⟨rfl, rfl⟩
        · rw [if_neg c3]; exact Or.inr ⟨rfl, rfl⟩
      · rw [if_neg c2]; exact Or.inr ⟨rfl, rfl⟩
    · rw [if_neg c1]; exact Or.inr ⟨rfl, rfl⟩
  · right
    rw [code_Valid.f, attestorref05_Valid.f, b_Valid h, br_Valid h, Option.bind_some, Option.bind_some, if_neg (by decide), if_neg (by decide)]
    exact ⟨rfl, rfl⟩
section dom
variable {f : Int} {p k : Nat} {s : Int} (z : Dm f p k s) (hv : attestorref05_Valid.f f (k : Int) s = some true)
include z hv
theorem d_rSize : attestorref05_Size.f f k s = some ((2 ^ k : Nat) : Int) := by
  have h18 := z.k18
  have e := beq_iff_eq.1 (List.all_eq_true.1 rshl_tab k (List.mem_range.2 (by omega)))
  rw [attestorref05_Size.f, hv, Option.bind_some, if_pos rfl, e, if_pos (by rw [wu64 (by omega) (by omega)]; omega)]
theorem d_rPoint {i : Nat} (hi : i < 2 ^ k) : Ev (fun K => attestorref05_Point.f K f k s i) (pnt f p k s i) := by
  have h18 := z.p18
  have hg := z.hg
  have hb := gr_le f
  have h0 := z.s0
  obtain ⟨K1, k1⟩ := Ev.get (r_Point z.h (k := k) (by omega) (s := s) (by omega) (i := i) (by omega))
  refine Ev.mk K1 fun K hK => ?_
  have nge : ¬ ((i : Int) ≥ ((2 ^ k : Nat) : Int)) := fun c => by have := Int.ofNat_le.1 c; omega
  rw [attestorref05_Point.f, if_neg (by omega), d_rSize z hv, Option.bind_some, if_neg nge, k1 K hK, Option.bind_some]
  rfl
end dom
end Go.Proofs.YthinfmfjpaikiaaDoor.Pure.V
namespace Go.Proofs.YthinfmfjpaikiaaDoor.Pure
open Go.RowKit Go.Proofs.YthinfmfjpaikiaaDoor.Q Go.Proofs.YthinfmfjpaikiaaDoor.Num Go.Proofs.YthinfmfjpaikiaaDoor.Pol Go.Proofs.YthinfmfjpaikiaaDoorW.PrintWords Go.Proofs.YthinfmfjpaikiaaDoorW.PrintLast Go.Proofs.YthinfmfjpaikiaaDoorW.PrintMore

theorem cofs_eqp {p u c t : Int} {v v' : List Int} {n : Nat} (h : EqP p v v') : cofs p u c t v n = cofs p u c t v' n := ext_co (by rw [cofs_length, cofs_length]) fun j hj => by
  rw [cofs_length] at hj
  rw [co_cofs hj, co_cofs hj]
  exact Cg.mod_eq ((h.ev _).mul (Cg.refl _ _))
def rfib (p : Nat) (l : List Int) (n i : Nat) : List Int := (fib l n i).map (· % (p : Int))
theorem rfib_length (p : Nat) (l : List Int) (n i : Nat) : (rfib p l n i).length = 8 := by rw [rfib, List.length_map, fib_length]
theorem co_rfib {p : Nat} {l : List Int} {n i j : Nat} (h : j < 8) : co (rfib p l n i) j = co l (i + j * n) % p := by rw [rfib, co_map_mod, co_fib h]
section dom
variable {f : Int} {p k : Nat} {s : Int} (z : Dm f p k s)
include z
theorem rfib_UL (l : List Int) (n i : Nat) : UL (rfib p l n i) := fun x hx => by
  obtain ⟨y, _, rfl⟩ := List.mem_map.1 hx
  exact z.h.U _
theorem sleaf_l0 {l : List Int} (ul : UL l) {n i : Nat} (hl : l.length = 8 * n) (hn : n ≤ 32768) (hi : i < n) : ∀ (d j : Nat) (x : List Int), j + d = 8 → x.length = 8 → (∀ t, t < 8 → co (rfib p l n i) t = if j ≤ t then co l (i + t * n) % p else co x t) → Ev (fun K => fold_Leaf.l0 K f l i n x j) (rfib p l n i) ∧ Ev (fun K => attestorref09_Leaf.l0 K f l i n x j) (rfib p l n i) := by
  intro d
  induction d with
  | zero =>
    intro j x hj hx hc
    have e : rfib p l n i = x := ext_co (by rw [rfib_length, hx]) fun t ht => by rw [rfib_length] at ht; rw [hc t ht, if_neg (by omega)]
    refine ⟨Ev.mks 0 fun K _ => ?_, Ev.mks 0 fun K _ => ?_⟩
    · rw [fold_Leaf.l0, if_neg (by omega), e]
    · rw [attestorref09_Leaf.l0, if_neg (by omega), e]
  | succ d ih =>
    intro j x hj hx hc
    have hj8 : j < 8 := by omega
    have hjn : j * n ≤ 7 * n := Nat.mul_le_mul_right n (by omega)
    have e0 : (j : Int) * (n : Int) = ((j * n : Nat) : Int) := by rw [Int.natCast_mul]
    have e1 : wrap64 ((i : Int) + wrap64 ((j : Int) * (n : Int))) = ((i + j * n : Nat) : Int) := by
      rw [e0, w64 (n := ((j * n : Nat) : Int)) (by omega) (by omega), w64 (by omega) (by omega)]
      omega
    have hlt : i + j * n < l.length := by omega
    have hq : ∀ t, t < 8 → co (rfib p l n i) t = if j + 1 ≤ t then co l (i + t * n) % p else co (x.set j (co l (i + j * n) % p)) t := fun t ht => by
      rw [hc t ht, co_set (by omega)]
      by_cases q : t = j
      · subst q; rw [if_pos (Nat.le_refl _), if_neg (by omega), if_pos rfl]
      · rw [if_neg q]
        by_cases q2 : j ≤ t
        · rw [if_pos q2, if_pos (by omega)]
        · rw [if_neg q2, if_neg (by omega)]
    obtain ⟨i1, i2⟩ := ih (j + 1) (x.set j (co l (i + j * n) % p)) (by omega) (by simpa using hx) hq
    refine ⟨Ev.succ (fun K => ?_) i1, Ev.succ (fun K => ?_) i2⟩
    · rw [fold_Leaf.l0, if_pos hj8, e1, if_pos ⟨Int.natCast_nonneg _, Int.ofNat_lt.2 hlt⟩, rd_nat, s_Reduce z.h (U.co ul _).1, Option.bind_some]
    · rw [attestorref09_Leaf.l0, if_pos hj8, e1, if_pos ⟨Int.natCast_nonneg _, Int.ofNat_lt.2 hlt⟩, rd_nat, r_Reduce z.h (U.co ul _).1, Option.bind_some]
theorem leafs_in {l : List Int} (ul : UL l) (h3 : 3 ≤ k) (hl : l.length = 2 ^ k) {i : Nat} (hi : i < 2 ^ k / 8) : Ev (fun K => fold_Leaf.l0 K f l i (2 ^ k / 8) (List.replicate 8 0) 0) (rfib p l (2 ^ k / 8) i) ∧ Ev (fun K => attestorref09_Leaf.l0 K f l i (2 ^ k / 8) (List.replicate 8 0) 0) (rfib p l (2 ^ k / 8) i) := by
  have h18 := z.p18
  have he : 2 ^ k = 8 * (2 ^ k / 8) := by
    obtain ⟨m, rfl⟩ : ∃ m, k = 3 + m := ⟨k - 3, by omega⟩
    rw [Nat.pow_add]; omega
  exact sleaf_l0 z ul (n := 2 ^ k / 8) (i := i) (by omega) (by omega) hi 8 0 (List.replicate 8 0) (by omega) rfl (fun t ht => by rw [co_rfib ht, if_pos (Nat.zero_le _)])
theorem Dm.rAt (l : List Int) {c : Int} (hc : 0 ≤ c) {i : Nat} : Ev (fun K => attestorref09_At.f K f (pnt f p k s i) (rfib p l (2 ^ k / 8) i) c) (ev (loc f p k s l i) c % p) := by
  have h0 := z.pnt_unit i
  have hm := (z.h.mod (s * (wr f p k ^ i % p)))
  have e0 : pnt f p k s i % p = pnt f p k s i := Int.emod_eq_of_lt (z.pnt_nn i) hm.2
  have e1 : pnt f p 3 (pnt f p k s i) 0 = pnt f p k s i := by
    rw [pnt, Int.pow_zero, Int.emod_eq_of_lt (by omega) z.h.one, Int.mul_one, e0]
  have e2 : loc f p 3 (pnt f p k s i % p) (rfib p l (2 ^ k / 8) i) 0 = loc f p k s l i := by
    unfold loc
    rw [e0, e1, fib_self (rfib_length _ _ _ _)]
    exact cofs_eqp fun j => by rw [rfib, co_map_mod]; exact Cg.mod _ _
  have := r_At z.h (z.pnt_nn i) hc (rfib_length p l (2 ^ k / 8) i) (rfib_UL z l _ _) h0
  rw [e2] at this
  exact this
variable (hv : attestorref05_Valid.f f (k : Int) s = some true)
include hv
theorem Dm.rLeaf {l : List Int} (ul : UL l) (h3 : 3 ≤ k) (hl : l.length = 2 ^ k) {i : Nat} (hi : i < 2 ^ k / 8) : Ev (fun K => attestorref09_Leaf.f K f k s l i) (rfib p l (2 ^ k / 8) i) := by
  have h18 := z.p18
  obtain ⟨K1, k1⟩ := Ev.get (leafs_in z ul h3 hl hi).2
  have e8 : ((2 ^ k : Nat) : Int) / 8 = ((2 ^ k / 8 : Nat) : Int) := by omega
  refine Ev.mk K1 fun K hK => ?_
  rw [attestorref09_Leaf.f, V.d_rSize z hv, Option.bind_some, if_pos (by omega), e8, if_neg (by omega), if_pos (by rw [hl]), if_neg (by omega), if_neg (by omega), Int.toNat_natCast]
  exact k1 K hK
theorem rWord_l0 {l : List Int} (ul : UL l) (h3 : 3 ≤ k) (hl : l.length = 2 ^ k) {c : Int} (hc : 0 ≤ c) : ∀ (d i : Nat), i + d = 2 ^ k / 8 → Ev (fun K => attestorref09_Word.l0 K l c ((wrd f p k s l c).take i) i f k s) (wrd f p k s l c, 0) := by
  have h18 := z.p18
  have e8 : wrap64 (Int.tdiv ((2 ^ k : Nat) : Int) 8) = ((2 ^ k / 8 : Nat) : Int) := by
    rw [Int.tdiv_eq_ediv_of_nonneg (Int.natCast_nonneg _), w64 (by omega) (by omega)]; omega
  intro d
  induction d with
  | zero =>
    intro i hi
    refine Ev.mks 0 fun K _ => ?_
    rw [attestorref09_Word.l0, V.d_rSize z hv, Option.bind_some, e8, if_neg (by omega), List.take_of_length_le (by rw [wrd_length]; omega)]
  | succ d ih =>
    intro i hi
    have hii : i < 2 ^ k / 8 := by omega
    obtain ⟨K1, k1⟩ := Ev.get (V.d_rPoint z hv (i := i) (by omega))
    obtain ⟨K2, k2⟩ := Ev.get (Dm.rLeaf z hv ul h3 hl hii)
    obtain ⟨K3, k3⟩ := Ev.get (z.rAt l hc (i := i))
    obtain ⟨K4, k4⟩ := Ev.get (ih (i + 1) (by omega))
    refine Ev.mks (K1 + K2 + K3 + K4) fun K hK => ?_
    rw [attestorref09_Word.l0, V.d_rSize z hv, Option.bind_some, e8, if_pos (Int.ofNat_lt.2 hii), k1 K (by omega), Option.bind_some, k2 K (by omega), Option.bind_some, k3 K (by omega), Option.bind_some, if_pos (by rw [List.length_take, wrd_length]; omega), w64_succ (by omega), ← co_wrd hii, take_co (by rw [wrd_length]; exact hii)]
    exact k4 K (by omega)
theorem Dm.rWord {l : List Int} (ul : UL l) (h3 : 3 ≤ k) (hl : l.length = 2 ^ k) {c : Int} (hc : 0 ≤ c) : Ev (fun K => attestorref09_Word.f K f k s l c) (wrd f p k s l c, 0) := by
  obtain ⟨K1, k1⟩ := Ev.get (rWord_l0 z hv ul h3 hl hc (2 ^ k / 8) 0 (by omega))
  refine Ev.mk (K1 + 1) fun K hK => ?_
  obtain ⟨K, rfl⟩ : ∃ K', K = K' + 1 := ⟨K - 1, by omega⟩
  have e8 : ((l.length : Int) != ((2 ^ k : Nat) : Int)) = false := by rw [hl]; exact bne_self_eq_false _
  rw [attestorref09_Word.f, hv, Option.bind_some, if_pos rfl, V.d_rSize z hv, Option.bind_some, e8, attestorref09_Word.j0, if_neg (by decide), if_neg (by omega)]
  exact k1 K (by omega)
theorem Dm.rNext (h3 : 3 ≤ k) : Ev (fun K => attestorref09_Next.f K f k s) (f, ((k - 3 : Nat) : Int), s ^ 8 % p, 0) := by
  have h0 := z.s0
  have h18 := z.k18
  obtain ⟨K2, k2⟩ := Ev.get (r_Pow z.h (a := s) (by omega) 8 8 (Nat.le_refl _) (by decide))
  refine Ev.mk K2 fun K hK => ?_
  rw [attestorref09_Next.f, hv, Option.bind_some, if_pos rfl, if_neg (by omega), show attestorref01_Pow.f K f s 8 = some _ from k2 K hK, Option.bind_some, w64 (by omega) (by omega), show (k : Int) - 3 = ((k - 3 : Nat) : Int) by omega]
end dom
theorem next_hv {f : Int} {p k : Nat} {s : Int} (z : Dm f p k s) : attestorref05_Valid.f f (k : Int) s = some true := by
  rcases V.dm_or f (k : Int) s with ⟨_, _, _, _, hv2⟩ | ⟨h1, _⟩
  · exact hv2
  · rw [z.valid] at h1; simp at h1
theorem rwords_l1 {f : Int} {p : Nat} : ∀ (cs : List Int) (k : Nat) (s : Int) (_ : Dm f p k s) (pre : List (List Int)) (cur zs : List Int), UL cs → cur.length = 2 ^ k → UL cur → 3 * cs.length ≤ k → pre.length + cs.length ≤ 100 → zs.length = pre.length + cs.length → (∀ t, t < cs.length → co zs (pre.length + t) = co cs t) →
    Ev (fun K => attestorref09_Words.l1 K zs (pre ++ [cur]) (pre.length : Int) f k s) (pre ++ wds f p k s cur cs, 0) := by
  intro cs
  induction cs with
  | nil =>
    intro k s z pre cur zs _ _ _ _ _ hz _
    refine Ev.mks 0 fun K hK => ?_
    rw [attestorref09_Words.l1, if_neg (by rw [hz]; simp), wds]
  | cons c cs ihc =>
    intro k s z pre cur zs uc hc ul h3 hp hz hv
    have hk : 3 ≤ k := by simp at h3; omega
    have h18 := z.k18
    have c0 : 0 ≤ c := (uc c (by simp)).1
    have ez := hv 0 (by simp)
    rw [Nat.add_zero, co_cons_zero] at ez
    have hp' : pre.length + cs.length + 1 ≤ 100 := by simpa [Nat.add_assoc] using hp
    have hz' : zs.length = pre.length + cs.length + 1 := by rw [hz, List.length_cons]; omega
    have hLL : (pre ++ [cur]).length = pre.length + 1 := by rw [List.length_append, List.length_singleton]
    have b1 : (pre.length : Int) < (zs.length : Int) := by omega
    have b2 : (pre.length : Int) < ((pre.length + 1 : Nat) : Int) := by omega
    have b3 : pre.length + 1 < 5864062014805 := by omega
    have b4 : pre.length < 9223372036854775807 := by omega
    have el : lc (pre ++ [cur]) pre.length = cur := by simp [lc]
    obtain ⟨K1, k1⟩ := Ev.get (Dm.rWord z (next_hv z) ul hk hc c0)
    obtain ⟨K2, k2⟩ := Ev.get (Dm.rNext z (next_hv z) hk)
    obtain ⟨K3, k3⟩ := Ev.get (ihc (k - 3) (s ^ 8 % p) (z.next hk) (pre ++ [cur]) (wrd f p k s cur c) zs (fun x hx => uc x (List.mem_cons_of_mem _ hx)) (wrd_len3 z hk _ _) ((wrd_rg z _ _).U z.h.o) (by simp at h3; omega) (by rw [hLL]; omega) (by rw [hLL]; omega) (fun t ht => by
      have := hv (t + 1) (by simp; omega)
      rw [co_cons_succ] at this
      rw [← this, hLL]; congr 1; omega))
    have ew : pre ++ [cur] ++ wds f p (k - 3) (s ^ 8 % p) (wrd f p k s cur c) cs = pre ++ wds f p k s cur (c :: cs) := by rw [List.append_assoc, List.singleton_append, wds]
    rw [ew, hLL] at k3
    refine Ev.mks (K1 + K2 + K3) fun K hK => ?_
    rw [attestorref09_Words.l1, if_pos b1, if_pos (Int.natCast_nonneg _), hLL, if_pos b2, rd_L1_nat, el, rd_nat, ez, k1 K (by omega), Option.bind_some, if_pos b3, k2 K (by omega), Option.bind_some, w64_succ b4]
    exact k3 K (by omega)
theorem rwords_l0 {f : Int} {p k : Nat} {s : Int} (z : Dm f p k s) {l zs : List Int} (ul : UL l) (hl : l.length ≤ 1000000) {v : List (List Int) × Int} (hK : Ev (fun K => attestorref09_Words.l1 K zs [l.map (· % (p : Int))] 0 f k s) v) : ∀ (d i : Nat), i + d = l.length →
    Ev (fun K => attestorref09_Words.l0 K l zs ((l.map (· % (p : Int))).take i) i f k s) v := by
  intro d
  induction d with
  | zero =>
    intro i hi
    refine Ev.succ (fun K => ?_) hK
    rw [attestorref09_Words.l0, if_neg (by omega), List.take_of_length_le (by rw [List.length_map]; omega)]
  | succ d ih =>
    intro i hi
    refine Ev.succ (fun K => ?_) (ih (i + 1) (by omega))
    have e : (l.map (· % (p : Int))).take i ++ [co l i % p] = (l.map (· % (p : Int))).take (i + 1) := by
      rw [← co_map_mod, take_co (by rw [List.length_map]; omega)]
    rw [attestorref09_Words.l0, if_pos (by omega), if_pos (Int.natCast_nonneg _), rd_nat, r_Reduce z.h (U.co ul i).1, Option.bind_some, if_pos (by rw [List.length_take, List.length_map]; omega), w64_succ (by omega), e]
theorem Dm.rWords {f : Int} {p k : Nat} {s : Int} (z : Dm f p k s) {l zs : List Int} (hl : l.length = 2 ^ k) (ul : UL l) (uz : UL zs) (hz : zs.length ≤ k / 3) : Ev (fun K => attestorref09_Words.f K f k s l zs) (wds f p k s (l.map (· % (p : Int))) zs, 0) := by
  have h18 := z.k18
  have hp18 := z.p18
  have uf : UL (l.map (· % (p : Int))) := fun x hx => by
    obtain ⟨y, _, rfl⟩ := List.mem_map.1 hx
    exact z.h.U _
  have h1 := rwords_l1 zs k s z [] (l.map (· % (p : Int))) zs uz (by rw [List.length_map]; exact hl) uf (by omega) (by simp; omega) (by simp) (fun t _ => by simp)
  obtain ⟨K1, k1⟩ := Ev.get (rwords_l0 z ul (by omega) h1 l.length 0 (by omega))
  refine Ev.mk (K1 + 1) fun K hK => ?_
  obtain ⟨K, rfl⟩ : ∃ K', K = K' + 1 := ⟨K - 1, by omega⟩
  have e8 : ((l.length : Int) != ((2 ^ k : Nat) : Int)) = false := by rw [hl]; exact bne_self_eq_false _
  have e3 : wrap64 (Int.tdiv (k : Int) 3) = ((k / 3 : Nat) : Int) := by rw [Int.tdiv_eq_ediv_of_nonneg (Int.natCast_nonneg _), w64 (by omega) (by omega)]; omega
  rw [attestorref09_Words.f, next_hv z, Option.bind_some, if_pos rfl, V.d_rSize z (next_hv z), Option.bind_some, e8, attestorref09_Words.j0, if_neg (by decide), e3, if_neg (by omega)]
  exact k1 K (by omega)
theorem both_Leaf (f b s i : Int) {l : List Int} (ul : UL l) (hl : l.length ≤ 1000) : ∃ r : List Int, r.length = 8 ∧ Ev (fun K => fold_Leaf.f K f b s l i) r ∧ Ev (fun K => attestorref09_Leaf.f K f b s l i) r := by
  rcases V.dm_or f b s with ⟨p, k, rfl, z, hv⟩ | ⟨h1, h2⟩
  · have h18 := z.p18
    have e8 : ((2 ^ k : Nat) : Int) / 8 = ((2 ^ k / 8 : Nat) : Int) := by omega
    have hs : 0 ≤ ((2 ^ k : Nat) : Int) ∧ ((2 ^ k : Nat) : Int) ≤ 9223372036854775807 := ⟨Int.natCast_nonneg _, Int.le_trans (Int.ofNat_le.2 h18) (by decide)⟩
    by_cases c : l.length = 2 ^ k
    · have c' : ((l.length : Int) == ((2 ^ k : Nat) : Int)) = true := by rw [c]; exact beq_self_eq_true _
      by_cases ci : 0 ≤ i ∧ i < ((2 ^ k / 8 : Nat) : Int)
      · obtain ⟨i, rfl⟩ : ∃ n : Nat, i = (n : Int) := ⟨i.toNat, by omega⟩
        have hi : i < 2 ^ k / 8 := by omega
        have h3 : 3 ≤ k := by
          refine Classical.byContradiction fun hn => ?_
          have : 2 ^ k ≤ 2 ^ 2 := Nat.pow_le_pow_right (by omega) (by omega)
          omega
        obtain ⟨K1, k1⟩ := Ev.get (leafs_in z ul h3 c hi).1
        refine ⟨_, rfib_length p l (2 ^ k / 8) i, Ev.mk K1 fun K hK => ?_, Dm.rLeaf z hv ul h3 c hi⟩
        rw [fold_Leaf.f, z.fisw, Option.bind_some, if_pos c', if_neg (by omega), c, e8, if_neg (by omega)]
        exact k1 K hK
      · refine ⟨List.replicate 8 0, rfl, Ev.mk 0 fun K _ => ?_, Ev.mk 0 fun K _ => ?_⟩
        · rw [fold_Leaf.f, z.fisw, Option.bind_some, if_pos c', c, e8]
          by_cases c0 : i < 0
          · rw [if_pos c0]
          · rw [if_neg c0, if_pos (by omega)]
        · rw [attestorref09_Leaf.f, V.d_rSize z hv, Option.bind_some, if_pos hs, e8]
          by_cases c9 : ((2 ^ k / 8 : Nat) : Int) = 0
          · rw [if_pos c9]
          · rw [if_neg c9, if_pos (by rw [c])]
            by_cases c0 : i < 0
            · rw [if_pos c0]
            · rw [if_neg c0, if_pos (by omega)]
    · have c' : ((l.length : Int) == ((2 ^ k : Nat) : Int)) = false := beq_eq_false_iff_ne.2 (by omega)
      refine ⟨List.replicate 8 0, rfl, Ev.mk 0 fun K _ => ?_, Ev.mk 0 fun K _ => ?_⟩
      · rw [fold_Leaf.f, z.fisw, Option.bind_some, c', if_neg (by decide)]
      · rw [attestorref09_Leaf.f, V.d_rSize z hv, Option.bind_some, if_pos hs, e8]
        by_cases c9 : ((2 ^ k / 8 : Nat) : Int) = 0
        · rw [if_pos c9]
        · rw [if_neg c9, if_neg (by omega)]
  · refine ⟨List.replicate 8 0, rfl, Ev.mk 0 fun K _ => ?_, Ev.mk 0 fun K _ => ?_⟩
    · rw [fold_Leaf.f, fold_isWord.f, h1, Option.bind_some, if_neg (by decide), Option.bind_some, if_neg (by decide)]
    · rw [attestorref09_Leaf.f, attestorref05_Size.f, h2, Option.bind_some, if_neg (by decide), Option.bind_some, if_pos ⟨by decide, by decide⟩, if_pos (by decide)]
theorem both_Word (f b s : Int) {c : Int} (hc : 0 ≤ c) {l : List Int} (ul : UL l) (hl : l.length ≤ 1000) : ∃ r : List Int × Int, r.1.length ≤ 1000000 ∧ Ev (fun K => fold_Word.f K f b s l c) r ∧ Ev (fun K => attestorref09_Word.f K f b s l c) r := by
  rcases V.dm_or f b s with ⟨p, k, rfl, z, hv⟩ | ⟨h1, h2⟩
  · have h18 := z.p18
    by_cases c0 : l.length = 2 ^ k
    · by_cases h3 : 3 ≤ k
      · exact ⟨_, by have := wrd_length f p k s l c; simp only; omega, z.Word h3 c0 ul hc, Dm.rWord z hv ul h3 c0 hc⟩
      · have c' : ((l.length : Int) == ((2 ^ k : Nat) : Int)) = true := by rw [c0]; exact beq_self_eq_true _
        have c'' : ((l.length : Int) != ((2 ^ k : Nat) : Int)) = false := by rw [c0]; exact bne_self_eq_false _
        refine ⟨([], 2), by simp, Ev.mk 0 fun K _ => ?_, Ev.mk 1 fun K hK => ?_⟩
        · rw [fold_Word.f, z.fisw, Option.bind_some, if_pos c', if_pos (by omega)]
        · obtain ⟨K, rfl⟩ : ∃ K', K = K' + 1 := ⟨K - 1, by omega⟩
          rw [attestorref09_Word.f, hv, Option.bind_some, if_pos rfl, V.d_rSize z hv, Option.bind_some, c'', attestorref09_Word.j0, if_neg (by decide), if_pos (by omega)]
    · have c' : ((l.length : Int) == ((2 ^ k : Nat) : Int)) = false := beq_eq_false_iff_ne.2 (by omega)
      have c'' : ((l.length : Int) != ((2 ^ k : Nat) : Int)) = true := bne_iff_ne.2 (by omega)
      refine ⟨([], 1), by simp, Ev.mk 0 fun K _ => ?_, Ev.mk 1 fun K hK => ?_⟩
      · rw [fold_Word.f, z.fisw, Option.bind_some, c', if_neg (by decide)]
      · obtain ⟨K, rfl⟩ : ∃ K', K = K' + 1 := ⟨K - 1, by omega⟩
        rw [attestorref09_Word.f, hv, Option.bind_some, if_pos rfl, V.d_rSize z hv, Option.bind_some, c'', attestorref09_Word.j0, if_pos rfl]
  · refine ⟨([], 1), by simp, Ev.mk 0 fun K _ => ?_, Ev.mk 1 fun K hK => ?_⟩
    · rw [fold_Word.f, fold_isWord.f, h1, Option.bind_some, if_neg (by decide), Option.bind_some, if_neg (by decide)]
    · obtain ⟨K, rfl⟩ : ∃ K', K = K' + 1 := ⟨K - 1, by omega⟩
      rw [attestorref09_Word.f, h2, Option.bind_some, if_neg (by decide), attestorref09_Word.j0, if_pos rfl]
theorem wds_lens (f : Int) (p : Nat) : ∀ (zs : List Int) (k : Nat) (s : Int) (l : List Int), k ≤ 18 → l.length ≤ 262144 → ∀ t, (lc (wds f p k s l zs) t).length ≤ 1000000
  | [], _, _, l, _, hl, t => by
    cases t with
    | zero => simp only [wds, lc, List.getD_cons_zero]; omega
    | succ t => simp [wds, lc]
  | c :: zs, k, s, l, hk, hl, t => by
    cases t with
    | zero => simp only [wds, lc, List.getD_cons_zero]; omega
    | succ t =>
      have h1 : 2 ^ k ≤ 2 ^ 18 := Nat.pow_le_pow_right (by omega) hk
      have := wds_lens f p zs (k - 3) (s ^ 8 % p) (wrd f p k s l c) (by omega) (by rw [wrd_length]; omega) t
      simpa only [wds, lc, List.getD_cons_succ] using this
theorem both_Words (f b s : Int) {l zs : List Int} (ul : UL l) (uz : UL zs) : ∃ r : List (List Int) × Int, r.1.length ≤ 1000 ∧ (∀ t, (lc r.1 t).length ≤ 1000000) ∧ Ev (fun K => fold_Words.f K f b s l zs) r ∧ Ev (fun K => attestorref09_Words.f K f b s l zs) r := by
  rcases V.dm_or f b s with ⟨p, k, rfl, z, hv⟩ | ⟨h1, h2⟩
  · have h18 := z.p18
    have hk18 := z.k18
    by_cases c0 : l.length = 2 ^ k
    · by_cases h3 : zs.length ≤ k / 3
      · exact ⟨_, by simp only [wds_length]; omega, wds_lens f p zs k s _ (by omega) (by rw [List.length_map]; omega), z.Words c0 ul uz h3, z.rWords c0 ul uz h3⟩
      · have c' : ((l.length : Int) == ((2 ^ k : Nat) : Int)) = true := by rw [c0]; exact beq_self_eq_true _
        have c'' : ((l.length : Int) != ((2 ^ k : Nat) : Int)) = false := by rw [c0]; exact bne_self_eq_false _
        have e3 : wrap64 (Int.tdiv (k : Int) 3) = ((k / 3 : Nat) : Int) := by rw [Int.tdiv_eq_ediv_of_nonneg (Int.natCast_nonneg _), w64 (by omega) (by omega)]; omega
        refine ⟨([], 2), by simp, by simp [lc], Ev.mk 0 fun K _ => ?_, Ev.mk 1 fun K hK => ?_⟩
        · have e0 : fold_Words0.f K f k s l zs = some ([], 2) := by
            rw [fold_Words0.f, z.fisw, Option.bind_some, if_pos c', s_Rounds (by omega), Option.bind_some, if_pos (by omega)]
          rw [fold_Words.f, e0, Option.bind_some, if_neg (by decide)]
        · obtain ⟨K, rfl⟩ : ∃ K', K = K' + 1 := ⟨K - 1, by omega⟩
          rw [attestorref09_Words.f, hv, Option.bind_some, if_pos rfl, V.d_rSize z hv, Option.bind_some, c'', attestorref09_Words.j0, if_neg (by decide), e3, if_pos (by omega)]
    · have c' : ((l.length : Int) == ((2 ^ k : Nat) : Int)) = false := beq_eq_false_iff_ne.2 (by omega)
      have c'' : ((l.length : Int) != ((2 ^ k : Nat) : Int)) = true := bne_iff_ne.2 (by omega)
      refine ⟨([], 1), by simp, by simp [lc], Ev.mk 0 fun K _ => ?_, Ev.mk 1 fun K hK => ?_⟩
      · have e0 : fold_Words0.f K f k s l zs = some ([], 1) := by
          rw [fold_Words0.f, z.fisw, Option.bind_some, c', if_neg (by decide)]
        rw [fold_Words.f, e0, Option.bind_some, if_neg (by decide)]
      · obtain ⟨K, rfl⟩ : ∃ K', K = K' + 1 := ⟨K - 1, by omega⟩
        rw [attestorref09_Words.f, hv, Option.bind_some, if_pos rfl, V.d_rSize z hv, Option.bind_some, c'', attestorref09_Words.j0, if_pos rfl]
  · refine ⟨([], 1), by simp, by simp [lc], Ev.mk 0 fun K _ => ?_, Ev.mk 1 fun K hK => ?_⟩
    · have e0 : fold_Words0.f K f b s l zs = some ([], 1) := by
        rw [fold_Words0.f, fold_isWord.f, h1, Option.bind_some, if_neg (by decide), Option.bind_some, if_neg (by decide)]
      rw [fold_Words.f, e0, Option.bind_some, if_neg (by decide)]
    · obtain ⟨K, rfl⟩ : ∃ K', K = K' + 1 := ⟨K - 1, by omega⟩
      rw [attestorref09_Words.f, h2, Option.bind_some, if_neg (by decide), attestorref09_Words.j0, if_pos rfl]
end Go.Proofs.YthinfmfjpaikiaaDoor.Pure
namespace Go.Proofs.YthinfmfjpaikiaaDoor.Pure
open Go.RowKit Go.Proofs.YthinfmfjpaikiaaDoor.Q Go.Proofs.YthinfmfjpaikiaaDoor.Num Go.Proofs.YthinfmfjpaikiaaDoor.Pol Go.Proofs.YthinfmfjpaikiaaDoorW.PrintWords Go.Proofs.YthinfmfjpaikiaaDoorW.PrintLast Go.Proofs.YthinfmfjpaikiaaDoorW.PrintMore

theorem slist_l0 {x : List (List Int)} (hx : ∀ r, (lc x r).length ≤ 1000000) (hl : x.length ≤ 1000000) : ∀ (d i : Nat), i + d = x.length → Ev (fun k => attestorref03_SameLists.l0 k x x i) true := by
  intro d
  induction d with
  | zero =>
    intro i hi
    refine Ev.succ (F := fun _ => some true) (fun k => ?_) (Ev.all fun _ => rfl)
    rw [attestorref03_SameLists.l0, if_neg (by omega)]
  | succ d ih =>
    intro i hi
    have g : i < x.length := by omega
    obtain ⟨K1, k1⟩ := Ev.get (r_Same (hx i))
    obtain ⟨K2, k2⟩ := Ev.get (ih (i + 1) (by omega))
    refine Ev.mks (K1 + K2) fun k hk => ?_
    rw [attestorref03_SameLists.l0, if_pos (Int.ofNat_lt.2 g), if_pos (Int.natCast_nonneg _), if_pos (Int.ofNat_lt.2 g), rd_L1_nat, k1 k (by omega), Option.bind_some, if_pos rfl, w64_succ (by omega)]
    exact k2 k (by omega)
theorem r_SameLists {x : List (List Int)} (hx : ∀ r, (lc x r).length ≤ 1000000) (hl : x.length ≤ 1000000) : Ev (fun k => attestorref03_SameLists.f k x x) true := by
  refine Ev.congr (fun k => ?_) (slist_l0 hx hl x.length 0 (by omega))
  rw [attestorref03_SameLists.f, if_pos rfl]
  rfl
section good
variable {f : Int} {p : Nat} (h : FP f p)
include h
end good
section any
variable {f : Int} {p : Nat} (h : FO f p)
include h
end any
end Go.Proofs.YthinfmfjpaikiaaDoor.Pure
